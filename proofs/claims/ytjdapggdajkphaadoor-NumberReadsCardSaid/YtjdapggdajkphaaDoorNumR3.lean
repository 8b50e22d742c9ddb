/-
  The reference's read, Dec and Hex: each returns what rdN says.
-/
import Derived.Test.YtjdapggdajkphaaDoorNumR2
namespace Go.Proofs.YtjdapggdajkphaaDoor
open Go.RowKit

set_option maxHeartbeats 2000000 in
theorem refread (s : ByteArray) (hex : Bool) (digits : Int) (most : Nat) (w : World) (hs : s.size ≤ 9223372036854775807) :
    Calls Tryd.prog 33 #[.string s, .bool hex, .int .i64 digits, .int .u64 most] w fun e w' =>
      e = .returned (.tuple #[.int .u64 (rdN hex s.data.toList digits most).1, .int .i64 (rdN hex s.data.toList digits most).2]) ∧ w = w' := by
  have hsz := size_l s
  by_cases h0 : s.size = 0
  · have hl : s.data.toList = [] := List.eq_nil_of_length_eq_zero (by omega)
    have H := Lib.hid (rd_empty hex digits most)
    rw [hl]
    clear hl hsz
    have hz := emp_t h0
    go_enter Tryd.func33, Tryd.ntmps33
    go_wp2
    go_ret2
    exact ⟨ret_rd 0 3 H.out rfl rfl, rfl⟩
  have hne : s.data.toList ≠ [] := fun e => h0 (by rw [← hsz, e]; rfl)
  have hpos : 0 < s.size := by omega
  have hz := emp_f h0
  by_cases hp : pfx hex s.data.toList < s.size
  · have H := Lib.hid (rd_bad hex s.data.toList digits most (by omega))
    have hp' : (pfx hex s.data.toList : Int) < (s.size : Int) := by omega
    clear h0 hne
    go_enter Tryd.func33, Tryd.ntmps33
    go_wp2_with (go_at_call 20; refine (refPrefix _ _ _ hs).mono ?_; rintro e w' ⟨rfl, rfl⟩)
    go_ret2
    exact ⟨ret_rd 0 3 H.out rfl rfl, rfl⟩
  have HP := Lib.hid hp
  by_cases hlong : digits < (s.size : Int)
  · have H := Lib.hid (rd_long hex s.data.toList digits most hne (by omega) (by omega))
    clear h0 hne
    go_enter Tryd.func33, Tryd.ntmps33
    go_wp2_with (go_at_call 20; refine (refPrefix _ _ _ hs).mono ?_; rintro e w' ⟨rfl, rfl⟩)
    go_ret2
    exact ⟨ret_rd 0 4 H.out rfl rfl, rfl⟩
  have HNE := Lib.hid hne
  have HSZ := Lib.hid hsz
  have HL := Lib.hid hlong
  have hall : ∀ k (hk : k < s.size), dvN hex s[k].toNat < 16 := fun k hk => all_of_pfx hex s.data.toList (by omega) k (by omega)
  have HALL := Lib.hid hall
  clear h0 hne hall hsz
  cases hex
  · go_enter Tryd.func33, Tryd.ntmps33
    go_wp2_with (go_at_call 20; refine (refPrefix _ _ _ hs).mono ?_; rintro e w' ⟨rfl, rfl⟩)
    go_loop [11, 12, 13] (fun n i _ => ∃ x k : Nat, n = .int .u64 x ∧ i = .int .i64 k ∧ k ≤ s.size ∧ x ≤ 18446744073709551615 ∧ Hid (valA false 0 s.data.toList = valA false x (s.data.toList.drop k))) (fun _ i _ => s.size - (intOf i).toNat)
    case atStart => exact ⟨0, 0, rfl, rfl, by omega, by omega, (by simp : valA false 0 s.data.toList = valA false 0 (s.data.toList.drop 0))⟩
    case round =>
      obtain ⟨x, k, rfl, rfl, hk, hx, HV⟩ := hrel
      by_cases hlt : k < s.size
      · obtain ⟨d, hd⟩ : ∃ d, d = dvN false s[k].toNat := ⟨_, rfl⟩
        have hd16 : d < 16 := by rw [hd]; exact HALL.out k hlt
        have hdig := Lib.hid (value_yes s[k].toNat false · (byte_le s k hlt) (by rw [← hd]; exact hd16))
        rw [← hd] at hdig
        have HV1 : Hid (valA false 0 s.data.toList = valA false (x * 10 + d) (s.data.toList.drop (k + 1))) := by
          rw [hd]; exact HV.out.trans (valA_drop false s.data.toList k x (by rw [HSZ.out]; exact hlt))
        have HD : Hid (d = dvN false s[k].toNat) := hd
        clear hd HV
        by_cases hov : 18446744073709551615 < x * 10 + d
        · have H := Lib.hid (rd_over false s.data.toList digits most HNE.out (by rw [HSZ.out]; have := HP.out; omega) (by rw [HSZ.out]; have := HL.out; omega) (.inl (by
            have h1 := valA_ge false (s.data.toList.drop (k + 1)) (x * 10 + d)
            rw [HV1.out]
            omega)))
          have ht : (18446744073709551615 - (d : Int)) / 10 < (x : Int) := by omega
          clear hov
          go_wp2_with (first
            | (go_at_call 29; refine (hdig.out _).mono ?_; rintro e w' ⟨rfl, rfl⟩))
          go_ret2
          exact ⟨ret_rd 0 2 H.out rfl rfl, rfl⟩
        · have ht : ¬ (18446744073709551615 - (d : Int)) / 10 < (x : Int) := by omega
          have hfit : x * 10 + d ≤ 18446744073709551615 := by omega
          clear hov
          go_wp2_with (first
            | (go_at_call 29; refine (hdig.out _).mono ?_; rintro e w' ⟨rfl, rfl⟩))
          go_round
          case rel => exact ⟨x * 10 + d, k + 1, by go_num, by go_num, by omega, by omega, HV1⟩
          case measure => simp [intOf]; omega
      · have hv : valA false 0 s.data.toList = x := by rw [HV.out, List.drop_eq_nil_of_le (by rw [HSZ.out]; omega)]; rfl
        have HV2 := Lib.hid hv
        clear hv HV
        by_cases hm : most < x
        · have H := Lib.hid (rd_over false s.data.toList digits most HNE.out (by rw [HSZ.out]; have := HP.out; omega) (by rw [HSZ.out]; have := HL.out; omega) (.inr (by rw [HV2.out]; exact hm)))
          go_wp2
          go_ret2
          exact ⟨ret_rd 0 2 H.out rfl rfl, rfl⟩
        · have H := Lib.hid (rd_ok false s.data.toList digits most HNE.out (by rw [HSZ.out]; have := HP.out; omega) (by rw [HSZ.out]; have := HL.out; omega) (by rw [HV2.out]; omega))
          go_wp2
          go_ret2
          exact ⟨ret_rd _ 0 H.out (by rw [HV2.out]) rfl, rfl⟩
  · go_enter Tryd.func33, Tryd.ntmps33
    go_wp2_with (go_at_call 20; refine (refPrefix _ _ _ hs).mono ?_; rintro e w' ⟨rfl, rfl⟩)
    go_loop [11, 12, 13] (fun n i _ => ∃ x k : Nat, n = .int .u64 x ∧ i = .int .i64 k ∧ k ≤ s.size ∧ x ≤ 18446744073709551615 ∧ Hid (valA true 0 s.data.toList = valA true x (s.data.toList.drop k))) (fun _ i _ => s.size - (intOf i).toNat)
    case atStart => exact ⟨0, 0, rfl, rfl, by omega, by omega, (by simp : valA true 0 s.data.toList = valA true 0 (s.data.toList.drop 0))⟩
    case round =>
      obtain ⟨x, k, rfl, rfl, hk, hx, HV⟩ := hrel
      by_cases hlt : k < s.size
      · obtain ⟨d, hd⟩ : ∃ d, d = dvN true s[k].toNat := ⟨_, rfl⟩
        have hd16 : d < 16 := by rw [hd]; exact HALL.out k hlt
        have hdig := Lib.hid (value_yes s[k].toNat true · (byte_le s k hlt) (by rw [← hd]; exact hd16))
        rw [← hd] at hdig
        have HV1 : Hid (valA true 0 s.data.toList = valA true (x * 16 + d) (s.data.toList.drop (k + 1))) := by
          rw [hd]; exact HV.out.trans (valA_drop true s.data.toList k x (by rw [HSZ.out]; exact hlt))
        have HD : Hid (d = dvN true s[k].toNat) := hd
        clear hd HV
        by_cases hov : 18446744073709551615 < x * 16 + d
        · have H := Lib.hid (rd_over true s.data.toList digits most HNE.out (by rw [HSZ.out]; have := HP.out; omega) (by rw [HSZ.out]; have := HL.out; omega) (.inl (by
            have h1 := valA_ge true (s.data.toList.drop (k + 1)) (x * 16 + d)
            rw [HV1.out]
            omega)))
          have ht : (18446744073709551615 - (d : Int)) / 16 < (x : Int) := by omega
          clear hov
          go_wp2_with (first
            | (go_at_call 29; refine (hdig.out _).mono ?_; rintro e w' ⟨rfl, rfl⟩))
          go_ret2
          exact ⟨ret_rd 0 2 H.out rfl rfl, rfl⟩
        · have ht : ¬ (18446744073709551615 - (d : Int)) / 16 < (x : Int) := by omega
          have hfit : x * 16 + d ≤ 18446744073709551615 := by omega
          clear hov
          go_wp2_with (first
            | (go_at_call 29; refine (hdig.out _).mono ?_; rintro e w' ⟨rfl, rfl⟩))
          go_round
          case rel => exact ⟨x * 16 + d, k + 1, by go_num, by go_num, by omega, by omega, HV1⟩
          case measure => simp [intOf]; omega
      · have hv : valA true 0 s.data.toList = x := by rw [HV.out, List.drop_eq_nil_of_le (by rw [HSZ.out]; omega)]; rfl
        have HV2 := Lib.hid hv
        clear hv HV
        by_cases hm : most < x
        · have H := Lib.hid (rd_over true s.data.toList digits most HNE.out (by rw [HSZ.out]; have := HP.out; omega) (by rw [HSZ.out]; have := HL.out; omega) (.inr (by rw [HV2.out]; exact hm)))
          go_wp2
          go_ret2
          exact ⟨ret_rd 0 2 H.out rfl rfl, rfl⟩
        · have H := Lib.hid (rd_ok true s.data.toList digits most HNE.out (by rw [HSZ.out]; have := HP.out; omega) (by rw [HSZ.out]; have := HL.out; omega) (by rw [HV2.out]; omega))
          go_wp2
          go_ret2
          exact ⟨ret_rd _ 0 H.out (by rw [HV2.out]) rfl, rfl⟩

set_option maxHeartbeats 400000 in
theorem refDec (s : ByteArray) (digits : Int) (most : Nat) (w : World) (hs : s.size ≤ 9223372036854775807) :
    Calls Tryd.prog 22 #[.string s, .int .i64 digits, .int .u64 most] w fun e w' =>
      e = .returned (.tuple #[.int .u64 (rdN false s.data.toList digits most).1, .int .i64 (rdN false s.data.toList digits most).2]) ∧ w = w' := by
  go_enter Tryd.func22, Tryd.ntmps22
  go_wp2_with (go_at_call 33; refine (refread _ _ _ _ _ hs).mono ?_; rintro e w' ⟨rfl, rfl⟩)
  go_ret2
  exact ⟨rfl, rfl⟩
set_option maxHeartbeats 400000 in
theorem refHex (s : ByteArray) (digits : Int) (most : Nat) (w : World) (hs : s.size ≤ 9223372036854775807) :
    Calls Tryd.prog 24 #[.string s, .int .i64 digits, .int .u64 most] w fun e w' =>
      e = .returned (.tuple #[.int .u64 (rdN true s.data.toList digits most).1, .int .i64 (rdN true s.data.toList digits most).2]) ∧ w = w' := by
  go_enter Tryd.func24, Tryd.ntmps24
  go_wp2_with (go_at_call 33; refine (refread _ _ _ _ _ hs).mono ?_; rintro e w' ⟨rfl, rfl⟩)
  go_ret2
  exact ⟨rfl, rfl⟩
end Go.Proofs.YtjdapggdajkphaaDoor
