/-
  The walks of Digit, value and the count of leading digits, in the program and in the reference: what each returns, for every input.
-/
import Derived.Test.YtjdapggdajkphaaDoorNumP
import Derived.Test.YtjdapggdajkphaaDoorBase
import Derived.Test.YtjdapggdajkphaaDoorRows
import Derived.WalkKit
import Derived.WalkSpells
import Derived.WalkLawsBesides
import Derived.Lib.Hide
namespace Go.Proofs.YtjdapggdajkphaaDoor
open Go.RowKit




set_option maxHeartbeats 400000 in
theorem Digit_yes (b : Nat) (hex : Bool) (w : World) (_h1 : b ≤ 255) (_h : dvN hex b < 16) :
    Calls Tryd.prog 15 #[.int .u8 b, .bool hex] w fun e w' => e = .returned (.tuple #[.int .i64 (dvN hex b), .int .i64 0]) ∧ w = w' := by
  cases hex
  all_goals
    go_enter Tryd.func15, Tryd.ntmps15
    go_wp2
    all_goals go_ret2
    all_goals (have _hf := dvN_f b; have _ht := dvN_t b; exact ⟨ret_int2 (by omega) (by omega), rfl⟩)
set_option maxHeartbeats 400000 in
theorem Digit_no (b : Nat) (hex : Bool) (w : World) (_h1 : b ≤ 255) (_h : ¬ dvN hex b < 16) :
    Calls Tryd.prog 15 #[.int .u8 b, .bool hex] w fun e w' => e = .returned (.tuple #[.int .i64 0, .int .i64 3]) ∧ w = w' := by
  cases hex
  all_goals
    go_enter Tryd.func15, Tryd.ntmps15
    go_wp2
    all_goals go_ret2
    all_goals (have _hf := dvN_f b; have _ht := dvN_t b; exact ⟨ret_int2 (by omega) (by omega), rfl⟩)
/-- the reference's value: -1 if it is none -/
def vI (hex : Bool) (b : Nat) : Int := if dvN hex b < 16 then dvN hex b else -1
theorem vI_yes {hex : Bool} {b : Nat} (h : dvN hex b < 16) : vI hex b = dvN hex b := if_pos h
theorem vI_no {hex : Bool} {b : Nat} (h : ¬ dvN hex b < 16) : vI hex b = -1 := if_neg h
set_option maxHeartbeats 400000 in
theorem value_yes (b : Nat) (hex : Bool) (w : World) (_h1 : b ≤ 255) (_h : dvN hex b < 16) :
    Calls Tryd.prog 29 #[.int .u8 b, .bool hex] w fun e w' => e = .returned (.int .i64 (dvN hex b)) ∧ w = w' := by
  cases hex
  all_goals
    go_enter Tryd.func29, Tryd.ntmps29
    go_wp2
    all_goals go_ret
    all_goals (have _hf := dvN_f b; have _ht := dvN_t b; exact ⟨ret_int (by omega), rfl⟩)
set_option maxHeartbeats 400000 in
theorem value_no (b : Nat) (hex : Bool) (w : World) (_h1 : b ≤ 255) (_h : ¬ dvN hex b < 16) :
    Calls Tryd.prog 29 #[.int .u8 b, .bool hex] w fun e w' => e = .returned (.int .i64 (-1)) ∧ w = w' := by
  cases hex
  all_goals
    go_enter Tryd.func29, Tryd.ntmps29
    go_wp2
    all_goals go_ret
    all_goals (have _hf := dvN_f b; have _ht := dvN_t b; exact ⟨ret_int (by omega), rfl⟩)
set_option maxHeartbeats 400000 in
theorem refDigit_yes (b : Nat) (hex : Bool) (w : World) (h1 : b ≤ 255) (h : dvN hex b < 16) :
    Calls Tryd.prog 16 #[.int .u8 b, .bool hex] w fun e w' => e = .returned (.tuple #[.int .i64 (dvN hex b), .int .i64 0]) ∧ w = w' := by
  go_enter Tryd.func16, Tryd.ntmps16
  go_wp2_with (go_at_call 29; refine (value_yes _ _ _ h1 h).mono ?_; rintro e w' ⟨rfl, rfl⟩)
  go_ret2
  exact ⟨rfl, rfl⟩
set_option maxHeartbeats 400000 in
theorem refDigit_no (b : Nat) (hex : Bool) (w : World) (h1 : b ≤ 255) (h : ¬ dvN hex b < 16) :
    Calls Tryd.prog 16 #[.int .u8 b, .bool hex] w fun e w' => e = .returned (.tuple #[.int .i64 0, .int .i64 3]) ∧ w = w' := by
  go_enter Tryd.func16, Tryd.ntmps16
  go_wp2_with (go_at_call 29; refine (value_no _ _ _ h1 h).mono ?_; rintro e w' ⟨rfl, rfl⟩)
  go_ret2
  exact ⟨rfl, rfl⟩

theorem byte_le (s : ByteArray) (k : Nat) (h : k < s.size) : (s[k]).toNat ≤ 255 := by have := (s[k]).toNat_lt; omega
theorem getl (s : ByteArray) (k : Nat) (h : k < s.size) : s.data.toList[k]'(by simpa using h) = s[k] := rfl


set_option maxHeartbeats 400000 in
theorem prefix_str (s : ByteArray) (hex : Bool) (w : World) (hs : s.size ≤ 9223372036854775807) :
    Calls Tryd.prog 31 #[.string s, .bool hex] w fun e w' => e = .returned (.int .i64 (pfx hex s.data.toList)) ∧ w = w' := by
  go_enter Tryd.func31, Tryd.ntmps31
  go_wp2
  go_loop [5, 6, 7] (fun i _ _ => ∃ k : Nat, k ≤ s.size ∧ i = .int .i64 k ∧ Hid (pfx hex s.data.toList = k + pfx hex (s.data.toList.drop k))) (fun i _ _ => s.size - (intOf i).toNat)
  case atStart => exact ⟨0, Nat.zero_le _, rfl, (by simp : pfx hex s.data.toList = 0 + pfx hex (s.data.toList.drop 0))⟩
  case round =>
    obtain ⟨k, hk, rfl, HP⟩ := hrel
    by_cases hlt : k < s.size
    · have hlt' : k < s.data.toList.length := by rw [size_l]; exact hlt
      by_cases hd : dvN hex s[k].toNat < 16
      · have HN := Lib.hid (pfx_yes hex s.data.toList k hlt' hd)
        have HD := Lib.hid hd
        clear hd
        go_wp2_with (go_at_call 15; refine (Digit_yes _ _ _ (byte_le s k hlt) HD.out).mono ?_; rintro e w' ⟨rfl, rfl⟩)
        go_round
        case rel => exact ⟨k + 1, by omega, by go_num, (by rw [HP.out, HN.out]; omega : pfx hex s.data.toList = (k + 1) + pfx hex (s.data.toList.drop (k + 1)))⟩
        case measure => simp [intOf]; omega
      · have HN := Lib.hid (pfx_no hex s.data.toList k hlt' hd)
        have HD := Lib.hid hd
        clear hd
        go_wp2_with (go_at_call 15; refine (Digit_no _ _ _ (byte_le s k hlt) HD.out).mono ?_; rintro e w' ⟨rfl, rfl⟩)
        go_ret
        exact ⟨ret_int (by rw [HP.out, HN.out]; rfl), rfl⟩
    · go_wp2
      go_ret
      exact ⟨ret_int (by rw [HP.out, List.drop_eq_nil_of_le (by rw [size_l]; omega)]; simp [pfx]; omega), rfl⟩
end Go.Proofs.YtjdapggdajkphaaDoor
