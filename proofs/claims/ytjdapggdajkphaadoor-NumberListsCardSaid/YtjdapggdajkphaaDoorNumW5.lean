/-
  The walks of the count of digits and of read over byte slices, Dec, Hex, Prefix, DecText and HexText of package number.
-/
import Derived.Test.YtjdapggdajkphaaDoorNumW4
namespace Go.Proofs.YtjdapggdajkphaaDoor
open Go.RowKit

set_option maxHeartbeats 400000 in
theorem prefix_bytes (s : ByteArray) (g cap : Nat) (hex : Bool) (w : World) (hs : s.size ≤ 9223372036854775807) (hb : BytesIn w g s) :
    Calls Tryd.prog 42 #[.slice (some ⟨g, 0, none⟩) s.size cap, .bool hex] w fun e w' => e = .returned (.int .i64 (pfx hex s.data.toList)) ∧ w = w' := by
  have HBI := Lib.hid hb
  clear hb
  go_enter Tryd.func42, Tryd.ntmps42
  go_wp2
  go_loop [5, 6, 7] (fun i _ _ => ∃ k : Nat, k ≤ s.size ∧ i = .int .i64 k ∧ Hid (pfx hex s.data.toList = k + pfx hex (s.data.toList.drop k))) (fun i _ _ => s.size - (intOf i).toNat)
  case atStart => exact ⟨0, Nat.zero_le _, rfl, (by simp : pfx hex s.data.toList = 0 + pfx hex (s.data.toList.drop 0))⟩
  case round =>
    obtain ⟨k, hk, rfl, HP⟩ := hrel
    by_cases hlt : k < s.size
    · have hlt' : k < s.data.toList.length := by rw [size_l]; exact hlt
      have hcell : w.cell? ⟨g, k, none⟩ = some (.int .u8 (s[k].toNat : Int)) := HBI.out k hlt
      by_cases hd : dvN hex s[k].toNat < 16
      · have HN := Lib.hid (pfx_yes hex s.data.toList k hlt' hd)
        have HD := Lib.hid hd
        clear hd
        go_wp2_with (go_at_call 15; refine (Digit_yes _ _ _ (byte_le s k hlt) HD.out).mono ?_; rintro e w' ⟨rfl, rfl⟩)
        go_round
        case rel => exact ⟨k + 1, by omega, by go_num, (by rw [HP.out, HN.out]; omega : pfx hex s.data.toList = (k + 1) + pfx hex (s.data.toList.drop (k + 1)))⟩
        case measure => simp [intOf]; omega
      · have HN := Lib.hid (pfx_no hex s.data.toList k hlt' hd)
        have HD := Lib.hid hd
        clear hd
        go_wp2_with (go_at_call 15; refine (Digit_no _ _ _ (byte_le s k hlt) HD.out).mono ?_; rintro e w' ⟨rfl, rfl⟩)
        go_ret
        exact ⟨ret_int (by rw [HP.out, HN.out]; rfl), rfl⟩
    · go_wp2
      go_ret
      exact ⟨ret_int (by rw [HP.out, List.drop_eq_nil_of_le (by rw [size_l]; omega)]; simp [pfx]; omega), rfl⟩

set_option maxHeartbeats 2000000 in
theorem read_bytes (s : ByteArray) (g cap : Nat) (hex : Bool) (digits : Int) (most : Nat) (w : World) (hs : s.size ≤ 9223372036854775807) (hb : BytesIn w g s) :
    Calls Tryd.prog 34 #[.slice (some ⟨g, 0, none⟩) s.size cap, .bool hex, .int .i64 digits, .int .u64 most] w fun e w' =>
      e = .returned (.tuple #[.int .u64 (rdN hex s.data.toList digits most).1, .int .i64 (rdN hex s.data.toList digits most).2]) ∧ w = w' := by
  have hsz := size_l s
  have HBI := Lib.hid hb
  clear hb
  by_cases h0 : s.size = 0
  · have hl : s.data.toList = [] := List.eq_nil_of_length_eq_zero (by omega)
    have H := Lib.hid (rd_empty hex digits most)
    rw [hl]
    clear hl hsz
    go_enter Tryd.func34, Tryd.ntmps34
    go_wp2
    go_ret2
    exact ⟨ret_rd 0 3 H.out rfl rfl, rfl⟩
  have hne : s.data.toList ≠ [] := fun e => h0 (by rw [← hsz, e]; rfl)
  have hpos : 0 < s.size := by omega
  have hz : ((s.size : Int) == 0) = false := by rw [beq_eq_false_iff_ne]; omega
  by_cases hp : pfx hex s.data.toList < s.size
  · have H := Lib.hid (rd_bad hex s.data.toList digits most (by omega))
    have hp' : (pfx hex s.data.toList : Int) < (s.size : Int) := by omega
    clear h0 hne
    go_enter Tryd.func34, Tryd.ntmps34
    go_wp2_with (go_at_call 42; refine (prefix_bytes s g cap _ _ hs HBI.out).mono ?_; rintro e w' ⟨rfl, rfl⟩)
    go_ret2
    exact ⟨ret_rd 0 3 H.out rfl rfl, rfl⟩
  have HP := Lib.hid hp
  by_cases hlong : digits < (s.size : Int)
  · have H := Lib.hid (rd_long hex s.data.toList digits most hne (by omega) (by omega))
    clear h0 hne
    go_enter Tryd.func34, Tryd.ntmps34
    go_wp2_with (go_at_call 42; refine (prefix_bytes s g cap _ _ hs HBI.out).mono ?_; rintro e w' ⟨rfl, rfl⟩)
    go_ret2
    exact ⟨ret_rd 0 4 H.out rfl rfl, rfl⟩
  have HNE := Lib.hid hne
  have HSZ := Lib.hid hsz
  have HL := Lib.hid hlong
  have hall : ∀ k (hk : k < s.size), dvN hex s[k].toNat < 16 := fun k hk => all_of_pfx hex s.data.toList (by omega) k (by omega)
  have HALL := Lib.hid hall
  clear h0 hne hall hsz
  cases hex
  · go_enter Tryd.func34, Tryd.ntmps34
    go_wp2_with (go_at_call 42; refine (prefix_bytes s g cap _ _ hs HBI.out).mono ?_; rintro e w' ⟨rfl, rfl⟩)
    go_loop [11, 12, 13, 14, 15, 16, 17, 18] (fun n i _ _ _ _ _ _ => ∃ x k : Nat, n = .int .u64 x ∧ i = .int .i64 k ∧ k ≤ s.size ∧ x ≤ 18446744073709551615 ∧ Hid (valA false 0 s.data.toList = valA false x (s.data.toList.drop k))) (fun _ i _ _ _ _ _ _ => s.size - (intOf i).toNat)
    case atStart => exact ⟨0, 0, rfl, rfl, by omega, by omega, (by simp : valA false 0 s.data.toList = valA false 0 (s.data.toList.drop 0))⟩
    case round =>
      obtain ⟨x, k, rfl, rfl, hk, hx, HV⟩ := hrel
      by_cases hlt : k < s.size
      · obtain ⟨d, hd⟩ : ∃ d, d = dvN false s[k].toNat := ⟨_, rfl⟩
        have hd16 : d < 16 := by rw [hd]; exact HALL.out k hlt
        have hcell : w.cell? ⟨g, k, none⟩ = some (.int .u8 (s[k].toNat : Int)) := HBI.out k hlt
        have HD : Hid (d = dvN false s[k].toNat) := hd
        obtain ⟨hi, lo, t, c, hst, e1, e2, e3, e4, hhi, hc, hlo, ht⟩ := step_exists false x d (by omega) hd16
        have hdig := Lib.hid (Digit_yes s[k].toNat false · (byte_le s k hlt) (by rw [← hd]; exact hd16))
        rw [← hd] at hdig
        have hmul := Lib.hid (mul64 x (baseN false) (10) rfl (by omega) (by decide))
        rw [← e1, ← e2] at hmul
        have hadd := add64 lo d
        rw [← e3, ← e4] at hadd
        have HV1 : Hid (valA false 0 s.data.toList = valA false (x * baseN false + d) (s.data.toList.drop (k + 1))) := by
          rw [hd]; exact HV.out.trans (valA_drop false s.data.toList k x (by rw [HSZ.out]; exact hlt))
        have HST := Lib.hid hst
        clear hd e1 e2 e3 e4 hst HV
        by_cases hov : 0 < hi + c
        · have H := Lib.hid (rd_over false s.data.toList digits most HNE.out (by rw [HSZ.out]; have := HP.out; omega) (by rw [HSZ.out]; have := HL.out; omega) (.inl (by
            have h1 := valA_ge false (s.data.toList.drop (k + 1)) (x * baseN false + d)
            have h2 := HST.out.mul
            have h3 := HST.out.add
            rw [HV1.out]
            omega)))
          go_wp2_with (first
            | (go_at_call 15; refine (hdig.out _).mono ?_; rintro e w' ⟨rfl, rfl⟩)
            | (go_at_call 40; refine (hmul.out _).mono ?_; rintro e w' ⟨rfl, rfl⟩))
          go_ret2
          exact ⟨ret_rd 0 2 H.out rfl rfl, rfl⟩
        · obtain rfl : hi = 0 := by omega
          obtain rfl : c = 0 := by omega
          have ht2 : x * baseN false + d = t := by have h2 := HST.out.mul; have h3 := HST.out.add; omega
          have HT2 := Lib.hid ht2
          clear ht2 hov
          go_wp2_with (first
            | (go_at_call 15; refine (hdig.out _).mono ?_; rintro e w' ⟨rfl, rfl⟩)
            | (go_at_call 40; refine (hmul.out _).mono ?_; rintro e w' ⟨rfl, rfl⟩))
          go_round
          case rel => exact ⟨t, k + 1, rfl, by go_num, by omega, by omega, by rw [← HT2.out]; exact HV1⟩
          case measure => simp [intOf]; omega
      · have hv : valA false 0 s.data.toList = x := by rw [HV.out, List.drop_eq_nil_of_le (by rw [HSZ.out]; omega)]; rfl
        have HV2 := Lib.hid hv
        clear hv HV
        by_cases hm : most < x
        · have H := Lib.hid (rd_over false s.data.toList digits most HNE.out (by rw [HSZ.out]; have := HP.out; omega) (by rw [HSZ.out]; have := HL.out; omega) (.inr (by rw [HV2.out]; exact hm)))
          go_wp2
          go_ret2
          exact ⟨ret_rd 0 2 H.out rfl rfl, rfl⟩
        · have H := Lib.hid (rd_ok false s.data.toList digits most HNE.out (by rw [HSZ.out]; have := HP.out; omega) (by rw [HSZ.out]; have := HL.out; omega) (by rw [HV2.out]; omega))
          go_wp2
          go_ret2
          exact ⟨ret_rd _ 0 H.out (by rw [HV2.out]) rfl, rfl⟩
  · go_enter Tryd.func34, Tryd.ntmps34
    go_wp2_with (go_at_call 42; refine (prefix_bytes s g cap _ _ hs HBI.out).mono ?_; rintro e w' ⟨rfl, rfl⟩)
    go_loop [11, 12, 13, 14, 15, 16, 17, 18] (fun n i _ _ _ _ _ _ => ∃ x k : Nat, n = .int .u64 x ∧ i = .int .i64 k ∧ k ≤ s.size ∧ x ≤ 18446744073709551615 ∧ Hid (valA true 0 s.data.toList = valA true x (s.data.toList.drop k))) (fun _ i _ _ _ _ _ _ => s.size - (intOf i).toNat)
    case atStart => exact ⟨0, 0, rfl, rfl, by omega, by omega, (by simp : valA true 0 s.data.toList = valA true 0 (s.data.toList.drop 0))⟩
    case round =>
      obtain ⟨x, k, rfl, rfl, hk, hx, HV⟩ := hrel
      by_cases hlt : k < s.size
      · obtain ⟨d, hd⟩ : ∃ d, d = dvN true s[k].toNat := ⟨_, rfl⟩
        have hd16 : d < 16 := by rw [hd]; exact HALL.out k hlt
        have hcell : w.cell? ⟨g, k, none⟩ = some (.int .u8 (s[k].toNat : Int)) := HBI.out k hlt
        have HD : Hid (d = dvN true s[k].toNat) := hd
        obtain ⟨hi, lo, t, c, hst, e1, e2, e3, e4, hhi, hc, hlo, ht⟩ := step_exists true x d (by omega) hd16
        have hdig := Lib.hid (Digit_yes s[k].toNat true · (byte_le s k hlt) (by rw [← hd]; exact hd16))
        rw [← hd] at hdig
        have hmul := Lib.hid (mul64 x (baseN true) (16) rfl (by omega) (by decide))
        rw [← e1, ← e2] at hmul
        have hadd := add64 lo d
        rw [← e3, ← e4] at hadd
        have HV1 : Hid (valA true 0 s.data.toList = valA true (x * baseN true + d) (s.data.toList.drop (k + 1))) := by
          rw [hd]; exact HV.out.trans (valA_drop true s.data.toList k x (by rw [HSZ.out]; exact hlt))
        have HST := Lib.hid hst
        clear hd e1 e2 e3 e4 hst HV
        by_cases hov : 0 < hi + c
        · have H := Lib.hid (rd_over true s.data.toList digits most HNE.out (by rw [HSZ.out]; have := HP.out; omega) (by rw [HSZ.out]; have := HL.out; omega) (.inl (by
            have h1 := valA_ge true (s.data.toList.drop (k + 1)) (x * baseN true + d)
            have h2 := HST.out.mul
            have h3 := HST.out.add
            rw [HV1.out]
            omega)))
          go_wp2_with (first
            | (go_at_call 15; refine (hdig.out _).mono ?_; rintro e w' ⟨rfl, rfl⟩)
            | (go_at_call 40; refine (hmul.out _).mono ?_; rintro e w' ⟨rfl, rfl⟩))
          go_ret2
          exact ⟨ret_rd 0 2 H.out rfl rfl, rfl⟩
        · obtain rfl : hi = 0 := by omega
          obtain rfl : c = 0 := by omega
          have ht2 : x * baseN true + d = t := by have h2 := HST.out.mul; have h3 := HST.out.add; omega
          have HT2 := Lib.hid ht2
          clear ht2 hov
          go_wp2_with (first
            | (go_at_call 15; refine (hdig.out _).mono ?_; rintro e w' ⟨rfl, rfl⟩)
            | (go_at_call 40; refine (hmul.out _).mono ?_; rintro e w' ⟨rfl, rfl⟩))
          go_round
          case rel => exact ⟨t, k + 1, rfl, by go_num, by omega, by omega, by rw [← HT2.out]; exact HV1⟩
          case measure => simp [intOf]; omega
      · have hv : valA true 0 s.data.toList = x := by rw [HV.out, List.drop_eq_nil_of_le (by rw [HSZ.out]; omega)]; rfl
        have HV2 := Lib.hid hv
        clear hv HV
        by_cases hm : most < x
        · have H := Lib.hid (rd_over true s.data.toList digits most HNE.out (by rw [HSZ.out]; have := HP.out; omega) (by rw [HSZ.out]; have := HL.out; omega) (.inr (by rw [HV2.out]; exact hm)))
          go_wp2
          go_ret2
          exact ⟨ret_rd 0 2 H.out rfl rfl, rfl⟩
        · have H := Lib.hid (rd_ok true s.data.toList digits most HNE.out (by rw [HSZ.out]; have := HP.out; omega) (by rw [HSZ.out]; have := HL.out; omega) (by rw [HV2.out]; omega))
          go_wp2
          go_ret2
          exact ⟨ret_rd _ 0 H.out (by rw [HV2.out]) rfl, rfl⟩

set_option maxHeartbeats 400000 in
theorem Prefix_any (s : ByteArray) (hex : Bool) (w : World) (hs : s.size ≤ 9223372036854775807) :
    Calls Tryd.prog 19 #[.string s, .bool hex] w fun e w' => e = .returned (.int .i64 (pfx hex s.data.toList)) ∧ w = w' := by
  go_enter Tryd.func19, Tryd.ntmps19
  go_wp2_with (go_at_call 31; refine (prefix_str _ _ _ hs).mono ?_; rintro e w' ⟨rfl, rfl⟩)
  go_ret
  exact ⟨rfl, rfl⟩
set_option maxHeartbeats 400000 in
theorem Dec_any (s : ByteArray) (digits : Int) (most : Nat) (w : World) (hs : s.size ≤ 9223372036854775807) :
    Calls Tryd.prog 21 #[.string s, .int .i64 digits, .int .u64 most] w fun e w' =>
      e = .returned (.tuple #[.int .u64 (rdN false s.data.toList digits most).1, .int .i64 (rdN false s.data.toList digits most).2]) ∧ w = w' := by
  go_enter Tryd.func21, Tryd.ntmps21
  go_wp2_with (go_at_call 32; refine (read_str _ _ _ _ _ hs).mono ?_; rintro e w' ⟨rfl, rfl⟩)
  go_ret2
  exact ⟨rfl, rfl⟩
set_option maxHeartbeats 400000 in
theorem Hex_any (s : ByteArray) (digits : Int) (most : Nat) (w : World) (hs : s.size ≤ 9223372036854775807) :
    Calls Tryd.prog 23 #[.string s, .int .i64 digits, .int .u64 most] w fun e w' =>
      e = .returned (.tuple #[.int .u64 (rdN true s.data.toList digits most).1, .int .i64 (rdN true s.data.toList digits most).2]) ∧ Below w.heap.size w w' := by
  obtain ⟨cap, w1, hr, hb, _, hbi, _⟩ := bytes_of_string (P := Tryd.prog) 9 29 5 Tryd.underlying9 Tryd.underlying29 Tryd.underlying5 w s
  have HBI := Lib.hid hbi
  have HB := Lib.hid hb
  clear hbi hb
  go_enter Tryd.func23, Tryd.ntmps23
  go_wp2_with (go_at_call 34; refine (read_bytes s _ cap _ _ _ _ hs HBI.out).mono ?_; rintro e w' ⟨rfl, rfl⟩)
  go_ret2
  exact ⟨rfl, HB.out⟩
set_option maxHeartbeats 400000 in
theorem DecText_any (u : Nat) (hu : u < 18446744073709551616) (w : World) (htab : Tabs w) :
    Calls Tryd.prog 10 #[.int .u64 u] w fun e w' => e = .returned (.string ⟨(Lib.decDigits u).toArray⟩) ∧ Below w.heap.size w w' := by
  go_enter Tryd.func10, Tryd.ntmps10
  go_wp2_with (go_at_call 28; refine (FormatUint10 u hu _ htab).mono ?_; rintro e w' ⟨rfl, hb⟩)
  go_ret
  exact ⟨rfl, hb⟩
set_option maxHeartbeats 400000 in
theorem HexText_any (u : Nat) (hu : u < 18446744073709551616) (w : World) (htab : Tabs w) :
    Calls Tryd.prog 11 #[.int .u64 u] w fun e w' => e = .returned (.string ⟨(hexDigits u).toArray⟩) ∧ Below w.heap.size w w' := by
  go_enter Tryd.func11, Tryd.ntmps11
  go_wp2_with (go_at_call 28; refine (FormatUint16 u hu _ htab).mono ?_; rintro e w' ⟨rfl, hb⟩)
  go_ret
  exact ⟨rfl, hb⟩
end Go.Proofs.YtjdapggdajkphaaDoor
