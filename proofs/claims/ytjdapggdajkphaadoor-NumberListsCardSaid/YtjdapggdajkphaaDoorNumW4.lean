/-
  The walks of read (over strings and byte slices), Dec and Hex of package number, and of read, Dec and Hex of the reference: each returns what rdN says.
-/
import Derived.Test.YtjdapggdajkphaaDoorNumW1
import Derived.Test.YtjdapggdajkphaaDoorNumW3
namespace Go.Proofs.YtjdapggdajkphaaDoor
open Go.RowKit

theorem mul64 (x y : Nat) (yI : Int) (hyI : yI = y) (hx : x < 18446744073709551616) (hy : y < 18446744073709551616) (w : World) :
    Calls Tryd.prog 40 #[.int .u64 x, .int .u64 yI] w fun e w' => e = .returned (.tuple #[.int .u64 ((x * y / 18446744073709551616 : Nat) : Int), .int .u64 ((x * y % 18446744073709551616 : Nat) : Int)]) ∧ w = w' := by
  subst hyI
  exact (Tryd.bits_Mul64 x y hx hy w).mono fun e w' h => ⟨h.1, h.2.symm⟩
theorem add64 (x y : Nat) (w : World) : (callFunc 41 #[.int .u64 x, .int .u64 y, .int .u64 0]).run Tryd.prog w =
    .ok (.value (.tuple #[.int .u64 (((x + y) % 18446744073709551616 : Nat) : Int), .int .u64 (((x + y) / 18446744073709551616 : Nat) : Int)])) w := by
  have h := Any7.bits_Add64 Tryd.lays25 x y 0 (by omega) w
  exact h

/-- one step of reading: the parts of the product and of the sum -/
structure Step (hex : Bool) (n d hi lo t c : Nat) : Prop where
  mul : n * baseN hex = hi * 18446744073709551616 + lo
  add : lo + d = c * 18446744073709551616 + t
theorem step_exists (hex : Bool) (n d : Nat) (hn : n < 18446744073709551616) (hd : d < 16) : ∃ hi lo t c, Step hex n d hi lo t c ∧ hi = n * baseN hex / 18446744073709551616 ∧ lo = n * baseN hex % 18446744073709551616 ∧
    t = (lo + d) % 18446744073709551616 ∧ c = (lo + d) / 18446744073709551616 ∧ hi ≤ 15 ∧ c ≤ 1 ∧ lo < 18446744073709551616 ∧ t < 18446744073709551616 := by
  have hb : baseN hex ≤ 16 := by unfold baseN; split <;> omega
  have hm : n * baseN hex ≤ n * 16 := Nat.mul_le_mul_left _ hb
  obtain ⟨m, hm'⟩ : ∃ m, n * baseN hex = m := ⟨_, rfl⟩
  rw [hm'] at hm ⊢
  exact ⟨_, _, _, _, ⟨by rw [hm']; omega, by omega⟩, rfl, rfl, rfl, rfl, by omega, by omega, by omega, by omega⟩

theorem rd_empty (hex : Bool) (digits : Int) (most : Nat) : rdN hex [] digits most = (0, 3) := by simp [rdN]
theorem rd_bad (hex : Bool) (l : List UInt8) (digits : Int) (most : Nat) (h : pfx hex l < l.length) : rdN hex l digits most = (0, 3) := by simp [rdN, h]
theorem rd_long (hex : Bool) (l : List UInt8) (digits : Int) (most : Nat) (h0 : l ≠ []) (h : ¬ pfx hex l < l.length) (h1 : digits < (l.length : Int)) : rdN hex l digits most = (0, 4) := by simp [rdN, h, h0, h1]
theorem rd_over (hex : Bool) (l : List UInt8) (digits : Int) (most : Nat) (h0 : l ≠ []) (h : ¬ pfx hex l < l.length) (h1 : ¬ digits < (l.length : Int)) (h2 : 18446744073709551615 < valA hex 0 l ∨ most < valA hex 0 l) : rdN hex l digits most = (0, 2) := by simp [rdN, h, h0, h1, h2]
theorem rd_ok (hex : Bool) (l : List UInt8) (digits : Int) (most : Nat) (h0 : l ≠ []) (h : ¬ pfx hex l < l.length) (h1 : ¬ digits < (l.length : Int)) (h2 : ¬ (18446744073709551615 < valA hex 0 l ∨ most < valA hex 0 l)) : rdN hex l digits most = (valA hex 0 l, 0) := by simp [rdN, h, h0, h1, h2]
theorem ret_rd {hex : Bool} {l : List UInt8} {digits : Int} {most : Nat} {a b : Int} (x y : Nat) (h : rdN hex l digits most = (x, y)) (ha : a = x) (hb : b = y) :
    Ending.returned (.tuple #[.int .u64 a, .int .i64 b]) = .returned (.tuple #[.int .u64 (rdN hex l digits most).1, .int .i64 (rdN hex l digits most).2]) := by rw [h, ha, hb]

set_option maxHeartbeats 2000000 in
theorem read_str (s : ByteArray) (hex : Bool) (digits : Int) (most : Nat) (w : World) (hs : s.size ≤ 9223372036854775807) :
    Calls Tryd.prog 32 #[.string s, .bool hex, .int .i64 digits, .int .u64 most] w fun e w' =>
      e = .returned (.tuple #[.int .u64 (rdN hex s.data.toList digits most).1, .int .i64 (rdN hex s.data.toList digits most).2]) ∧ w = w' := by
  have hsz := size_l s
  by_cases h0 : s.size = 0
  · have hl : s.data.toList = [] := List.eq_nil_of_length_eq_zero (by omega)
    have H := Lib.hid (rd_empty hex digits most)
    rw [hl]
    clear hl hsz
    go_enter Tryd.func32, Tryd.ntmps32
    go_wp2
    go_ret2
    exact ⟨ret_rd 0 3 H.out rfl rfl, rfl⟩
  have hne : s.data.toList ≠ [] := fun e => h0 (by rw [← hsz, e]; rfl)
  have hpos : 0 < s.size := by omega
  have hz : ((s.size : Int) == 0) = false := by rw [beq_eq_false_iff_ne]; omega
  by_cases hp : pfx hex s.data.toList < s.size
  · have H := Lib.hid (rd_bad hex s.data.toList digits most (by omega))
    have hp' : (pfx hex s.data.toList : Int) < (s.size : Int) := by omega
    clear h0 hne
    go_enter Tryd.func32, Tryd.ntmps32
    go_wp2_with (go_at_call 31; refine (prefix_str _ _ _ hs).mono ?_; rintro e w' ⟨rfl, rfl⟩)
    go_ret2
    exact ⟨ret_rd 0 3 H.out rfl rfl, rfl⟩
  have HP := Lib.hid hp
  by_cases hlong : digits < (s.size : Int)
  · have H := Lib.hid (rd_long hex s.data.toList digits most hne (by omega) (by omega))
    clear h0 hne
    go_enter Tryd.func32, Tryd.ntmps32
    go_wp2_with (go_at_call 31; refine (prefix_str _ _ _ hs).mono ?_; rintro e w' ⟨rfl, rfl⟩)
    go_ret2
    exact ⟨ret_rd 0 4 H.out rfl rfl, rfl⟩
  have HNE := Lib.hid hne
  have HSZ := Lib.hid hsz
  have HL := Lib.hid hlong
  have hall : ∀ k (hk : k < s.size), dvN hex s[k].toNat < 16 := fun k hk => all_of_pfx hex s.data.toList (by omega) k (by omega)
  have HALL := Lib.hid hall
  clear h0 hne hall hsz
  cases hex
  · go_enter Tryd.func32, Tryd.ntmps32
    go_wp2_with (go_at_call 31; refine (prefix_str _ _ _ hs).mono ?_; rintro e w' ⟨rfl, rfl⟩)
    go_loop [11, 12, 13, 14, 15, 16, 17, 18] (fun n i _ _ _ _ _ _ => ∃ x k : Nat, n = .int .u64 x ∧ i = .int .i64 k ∧ k ≤ s.size ∧ x ≤ 18446744073709551615 ∧ Hid (valA false 0 s.data.toList = valA false x (s.data.toList.drop k))) (fun _ i _ _ _ _ _ _ => s.size - (intOf i).toNat)
    case atStart => exact ⟨0, 0, rfl, rfl, by omega, by omega, (by simp : valA false 0 s.data.toList = valA false 0 (s.data.toList.drop 0))⟩
    case round =>
      obtain ⟨x, k, rfl, rfl, hk, hx, HV⟩ := hrel
      by_cases hlt : k < s.size
      · obtain ⟨d, hd⟩ : ∃ d, d = dvN false s[k].toNat := ⟨_, rfl⟩
        have hd16 : d < 16 := by rw [hd]; exact HALL.out k hlt
        have HD : Hid (d = dvN false s[k].toNat) := hd
        obtain ⟨hi, lo, t, c, hst, e1, e2, e3, e4, hhi, hc, hlo, ht⟩ := step_exists false x d (by omega) hd16
        have hdig := Lib.hid (Digit_yes s[k].toNat false · (byte_le s k hlt) (by rw [← hd]; exact hd16))
        rw [← hd] at hdig
        have hmul := Lib.hid (mul64 x (baseN false) (10) rfl (by omega) (by decide))
        rw [← e1, ← e2] at hmul
        have hadd := add64 lo d
        rw [← e3, ← e4] at hadd
        have HV1 : Hid (valA false 0 s.data.toList = valA false (x * baseN false + d) (s.data.toList.drop (k + 1))) := by
          rw [hd]; exact HV.out.trans (valA_drop false s.data.toList k x (by rw [HSZ.out]; exact hlt))
        have HST := Lib.hid hst
        clear hd e1 e2 e3 e4 hst HV
        by_cases hov : 0 < hi + c
        · have H := Lib.hid (rd_over false s.data.toList digits most HNE.out (by rw [HSZ.out]; have := HP.out; omega) (by rw [HSZ.out]; have := HL.out; omega) (.inl (by
            have h1 := valA_ge false (s.data.toList.drop (k + 1)) (x * baseN false + d)
            have h2 := HST.out.mul
            have h3 := HST.out.add
            rw [HV1.out]
            omega)))
          go_wp2_with (first
            | (go_at_call 15; refine (hdig.out _).mono ?_; rintro e w' ⟨rfl, rfl⟩)
            | (go_at_call 40; refine (hmul.out _).mono ?_; rintro e w' ⟨rfl, rfl⟩))
          go_ret2
          exact ⟨ret_rd 0 2 H.out rfl rfl, rfl⟩
        · obtain rfl : hi = 0 := by omega
          obtain rfl : c = 0 := by omega
          have ht2 : x * baseN false + d = t := by have h2 := HST.out.mul; have h3 := HST.out.add; omega
          have HT2 := Lib.hid ht2
          clear ht2 hov
          go_wp2_with (first
            | (go_at_call 15; refine (hdig.out _).mono ?_; rintro e w' ⟨rfl, rfl⟩)
            | (go_at_call 40; refine (hmul.out _).mono ?_; rintro e w' ⟨rfl, rfl⟩))
          go_round
          case rel => exact ⟨t, k + 1, rfl, by go_num, by omega, by omega, by rw [← HT2.out]; exact HV1⟩
          case measure => simp [intOf]; omega
      · have hv : valA false 0 s.data.toList = x := by rw [HV.out, List.drop_eq_nil_of_le (by rw [HSZ.out]; omega)]; rfl
        have HV2 := Lib.hid hv
        clear hv HV
        by_cases hm : most < x
        · have H := Lib.hid (rd_over false s.data.toList digits most HNE.out (by rw [HSZ.out]; have := HP.out; omega) (by rw [HSZ.out]; have := HL.out; omega) (.inr (by rw [HV2.out]; exact hm)))
          go_wp2
          go_ret2
          exact ⟨ret_rd 0 2 H.out rfl rfl, rfl⟩
        · have H := Lib.hid (rd_ok false s.data.toList digits most HNE.out (by rw [HSZ.out]; have := HP.out; omega) (by rw [HSZ.out]; have := HL.out; omega) (by rw [HV2.out]; omega))
          go_wp2
          go_ret2
          exact ⟨ret_rd _ 0 H.out (by rw [HV2.out]) rfl, rfl⟩
  · go_enter Tryd.func32, Tryd.ntmps32
    go_wp2_with (go_at_call 31; refine (prefix_str _ _ _ hs).mono ?_; rintro e w' ⟨rfl, rfl⟩)
    go_loop [11, 12, 13, 14, 15, 16, 17, 18] (fun n i _ _ _ _ _ _ => ∃ x k : Nat, n = .int .u64 x ∧ i = .int .i64 k ∧ k ≤ s.size ∧ x ≤ 18446744073709551615 ∧ Hid (valA true 0 s.data.toList = valA true x (s.data.toList.drop k))) (fun _ i _ _ _ _ _ _ => s.size - (intOf i).toNat)
    case atStart => exact ⟨0, 0, rfl, rfl, by omega, by omega, (by simp : valA true 0 s.data.toList = valA true 0 (s.data.toList.drop 0))⟩
    case round =>
      obtain ⟨x, k, rfl, rfl, hk, hx, HV⟩ := hrel
      by_cases hlt : k < s.size
      · obtain ⟨d, hd⟩ : ∃ d, d = dvN true s[k].toNat := ⟨_, rfl⟩
        have hd16 : d < 16 := by rw [hd]; exact HALL.out k hlt
        have HD : Hid (d = dvN true s[k].toNat) := hd
        obtain ⟨hi, lo, t, c, hst, e1, e2, e3, e4, hhi, hc, hlo, ht⟩ := step_exists true x d (by omega) hd16
        have hdig := Lib.hid (Digit_yes s[k].toNat true · (byte_le s k hlt) (by rw [← hd]; exact hd16))
        rw [← hd] at hdig
        have hmul := Lib.hid (mul64 x (baseN true) (16) rfl (by omega) (by decide))
        rw [← e1, ← e2] at hmul
        have hadd := add64 lo d
        rw [← e3, ← e4] at hadd
        have HV1 : Hid (valA true 0 s.data.toList = valA true (x * baseN true + d) (s.data.toList.drop (k + 1))) := by
          rw [hd]; exact HV.out.trans (valA_drop true s.data.toList k x (by rw [HSZ.out]; exact hlt))
        have HST := Lib.hid hst
        clear hd e1 e2 e3 e4 hst HV
        by_cases hov : 0 < hi + c
        · have H := Lib.hid (rd_over true s.data.toList digits most HNE.out (by rw [HSZ.out]; have := HP.out; omega) (by rw [HSZ.out]; have := HL.out; omega) (.inl (by
            have h1 := valA_ge true (s.data.toList.drop (k + 1)) (x * baseN true + d)
            have h2 := HST.out.mul
            have h3 := HST.out.add
            rw [HV1.out]
            omega)))
          go_wp2_with (first
            | (go_at_call 15; refine (hdig.out _).mono ?_; rintro e w' ⟨rfl, rfl⟩)
            | (go_at_call 40; refine (hmul.out _).mono ?_; rintro e w' ⟨rfl, rfl⟩))
          go_ret2
          exact ⟨ret_rd 0 2 H.out rfl rfl, rfl⟩
        · obtain rfl : hi = 0 := by omega
          obtain rfl : c = 0 := by omega
          have ht2 : x * baseN true + d = t := by have h2 := HST.out.mul; have h3 := HST.out.add; omega
          have HT2 := Lib.hid ht2
          clear ht2 hov
          go_wp2_with (first
            | (go_at_call 15; refine (hdig.out _).mono ?_; rintro e w' ⟨rfl, rfl⟩)
            | (go_at_call 40; refine (hmul.out _).mono ?_; rintro e w' ⟨rfl, rfl⟩))
          go_round
          case rel => exact ⟨t, k + 1, rfl, by go_num, by omega, by omega, by rw [← HT2.out]; exact HV1⟩
          case measure => simp [intOf]; omega
      · have hv : valA true 0 s.data.toList = x := by rw [HV.out, List.drop_eq_nil_of_le (by rw [HSZ.out]; omega)]; rfl
        have HV2 := Lib.hid hv
        clear hv HV
        by_cases hm : most < x
        · have H := Lib.hid (rd_over true s.data.toList digits most HNE.out (by rw [HSZ.out]; have := HP.out; omega) (by rw [HSZ.out]; have := HL.out; omega) (.inr (by rw [HV2.out]; exact hm)))
          go_wp2
          go_ret2
          exact ⟨ret_rd 0 2 H.out rfl rfl, rfl⟩
        · have H := Lib.hid (rd_ok true s.data.toList digits most HNE.out (by rw [HSZ.out]; have := HP.out; omega) (by rw [HSZ.out]; have := HL.out; omega) (by rw [HV2.out]; omega))
          go_wp2
          go_ret2
          exact ⟨ret_rd _ 0 H.out (by rw [HV2.out]) rfl, rfl⟩
end Go.Proofs.YtjdapggdajkphaaDoor
