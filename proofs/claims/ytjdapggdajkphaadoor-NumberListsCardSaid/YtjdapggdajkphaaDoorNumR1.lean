/-
  The reference's write, DecText, HexText and its count of leading digits.
-/
import Derived.Test.YtjdapggdajkphaaDoorNumL1
import Derived.Deep.QuietTactic
import Derived.BigQuiet
namespace Go.Proofs.YtjdapggdajkphaaDoor
open Go.RowKit

/-- the sixteen digits -/
def digits16 : ByteArray := ⟨#[48, 49, 50, 51, 52, 53, 54, 55, 56, 57, 97, 98, 99, 100, 101, 102]⟩
theorem digits16_at : ∀ p : Fin 16, digits16.extract p.val (p.val + 1) = ⟨#[hxd p.val]⟩ := by decide +kernel
theorem hxd10 (d : Nat) (h : d < 10) : hxd d = UInt8.ofNat (48 + d) := if_pos h

theorem ext16 (d n : Nat) (h : d < 16) (e : d = n) : (⟨[hxd n].toArray⟩ : ByteArray) = (⟨#[48, 49, 50, 51, 52, 53, 54, 55, 56, 57, 97, 98, 99, 100, 101, 102]⟩ : ByteArray).extract d (d + 1) := by
  subst e
  exact (digits16_at ⟨d, h⟩).symm

set_option maxRecDepth 100000 in
set_option maxHeartbeats 1000000 in
theorem write10_small (n : Nat) (w : World) (hn : n < 10) :
    Calls Tryd.prog 30 #[.int .u64 n, .int .u64 10] w fun e w' => e = .returned (.string ⟨(Lib.decDigits n).toArray⟩) ∧ ∃ m, w' = w.drewN m := by
  have hd : Lib.decDigits n = [hxd n] := by rw [Lib.decDigits, dif_pos hn, hxd10 n hn]
  have HD := Lib.hid hd
  clear hd
  go_enter Tryd.func30, Tryd.ntmps30
  go_wp2_with fail
  go_quiet (fail)
  go_wp2_with fail
  go_ret
  exact ⟨ret_str (by rw [HD.out]; exact (ext16 (n % 10) n (by omega) (by omega)).symm), _, rfl⟩
set_option maxRecDepth 100000 in
set_option maxHeartbeats 1000000 in
theorem write10 (k : Nat) : ∀ (n : Nat) (w : World), n ≤ k → n < 18446744073709551616 →
    Calls Tryd.prog 30 #[.int .u64 n, .int .u64 10] w fun e w' => e = .returned (.string ⟨(Lib.decDigits n).toArray⟩) ∧ ∃ m, w' = w.drewN m := by
  induction k with
  | zero => intro n w hk hn; exact write10_small n w (by omega)
  | succ k ih =>
    intro n w hk hn
    by_cases hs : n < 10
    · exact write10_small n w hs
    · have hd : Lib.decDigits n = Lib.decDigits (n / 10) ++ [hxd (n % 10)] := by rw [Lib.decDigits, dif_neg hs, hxd10 _ (by omega)]
      have hl : (⟨(Lib.decDigits (n / 10)).toArray⟩ : ByteArray).size ≤ 20 := by
        show (Lib.decDigits (n / 10)).toArray.size ≤ 20
        rw [List.size_toArray]
        exact decDigits_le _ (by omega)
      have hext := ext16 (n % 10) (n % 10) (by omega) (by omega)
      have he1 : ((⟨#[48, 49, 50, 51, 52, 53, 54, 55, 56, 57, 97, 98, 99, 100, 101, 102]⟩ : ByteArray).extract (n % 10) (n % 10 + 1)).size ≤ 1 := by rw [← hext]; exact Nat.le_refl 1
      have HE := Lib.hid hext
      have HD := Lib.hid hd
      have IH := Lib.hid ih
      clear hext hd ih
      go_enter Tryd.func30, Tryd.ntmps30
      go_wp2_with fail
      go_quiet (fail)
      go_wp2_with fail
      rw [show (n : Int) / 10 = ((n / 10 : Nat) : Int) by omega]
      (with_reducible refine (IH.out (n / 10) _ (by omega) (by omega)).mono ?_); rintro e w1 ⟨rfl, m, rfl⟩
      go_wp2_with fail
      go_ret
      refine ⟨ret_str ?_, _, rfl⟩
      apply ba_ext
      rw [append_toList, HD.out, ← HE.out]

set_option maxRecDepth 100000 in
set_option maxHeartbeats 1000000 in
theorem write16_small (n : Nat) (w : World) (hn : n < 16) :
    Calls Tryd.prog 30 #[.int .u64 n, .int .u64 16] w fun e w' => e = .returned (.string ⟨(hexDigits n).toArray⟩) ∧ ∃ m, w' = w.drewN m := by
  have hd : hexDigits n = [hxd n] := hexDigits_small hn
  have HD := Lib.hid hd
  clear hd
  go_enter Tryd.func30, Tryd.ntmps30
  go_wp2_with fail
  go_quiet (fail)
  go_wp2_with fail
  go_ret
  exact ⟨ret_str (by rw [HD.out]; exact (ext16 (n % 16) n (by omega) (by omega)).symm), _, rfl⟩
set_option maxRecDepth 100000 in
set_option maxHeartbeats 1000000 in
theorem write16 (k : Nat) : ∀ (n : Nat) (w : World), n ≤ k → n < 18446744073709551616 →
    Calls Tryd.prog 30 #[.int .u64 n, .int .u64 16] w fun e w' => e = .returned (.string ⟨(hexDigits n).toArray⟩) ∧ ∃ m, w' = w.drewN m := by
  induction k with
  | zero => intro n w hk hn; exact write16_small n w (by omega)
  | succ k ih =>
    intro n w hk hn
    by_cases hs : n < 16
    · exact write16_small n w hs
    · have hd : hexDigits n = hexDigits (n / 16) ++ [hxd (n % 16)] := hexDigits_big hs
      have hl : (⟨(hexDigits (n / 16)).toArray⟩ : ByteArray).size ≤ 20 := by
        show (hexDigits (n / 16)).toArray.size ≤ 20
        rw [List.size_toArray]
        exact Nat.le_trans (hexDigits_le16 _ (by omega)) (by omega)
      have hext := ext16 (n % 16) (n % 16) (by omega) (by omega)
      have he1 : ((⟨#[48, 49, 50, 51, 52, 53, 54, 55, 56, 57, 97, 98, 99, 100, 101, 102]⟩ : ByteArray).extract (n % 16) (n % 16 + 1)).size ≤ 1 := by rw [← hext]; exact Nat.le_refl 1
      have HE := Lib.hid hext
      have HD := Lib.hid hd
      have IH := Lib.hid ih
      clear hext hd ih
      go_enter Tryd.func30, Tryd.ntmps30
      go_wp2_with fail
      go_quiet (fail)
      go_wp2_with fail
      rw [show (n : Int) / 16 = ((n / 16 : Nat) : Int) by omega]
      (with_reducible refine (IH.out (n / 16) _ (by omega) (by omega)).mono ?_); rintro e w1 ⟨rfl, m, rfl⟩
      go_wp2_with fail
      go_ret
      refine ⟨ret_str ?_, _, rfl⟩
      apply ba_ext
      rw [append_toList, HD.out, ← HE.out]

set_option maxHeartbeats 400000 in
theorem refDecText_q (n : Nat) (w : World) (hn : n < 18446744073709551616) :
    Calls Tryd.prog 17 #[.int .u64 n] w fun e w' => e = .returned (.string ⟨(Lib.decDigits n).toArray⟩) ∧ ∃ m, w' = w.drewN m := by
  go_enter Tryd.func17, Tryd.ntmps17
  go_wp2_with fail
  (with_reducible refine (write10 n n _ (Nat.le_refl _) hn).mono ?_); rintro e w1 ⟨rfl, m, rfl⟩
  go_wp2_with fail
  go_ret
  exact ⟨rfl, _, rfl⟩
theorem refDecText (n : Nat) (w : World) (hn : n < 18446744073709551616) :
    Calls Tryd.prog 17 #[.int .u64 n] w fun e w' => e = .returned (.string ⟨(Lib.decDigits n).toArray⟩) ∧ Below w.heap.size w w' :=
  (refDecText_q n w hn).mono fun _ _ ⟨h, m, hm⟩ => ⟨h, by rw [hm]; exact below_drewN (Below.refl _ _) _⟩
set_option maxHeartbeats 400000 in
theorem refHexText_q (n : Nat) (w : World) (hn : n < 18446744073709551616) :
    Calls Tryd.prog 18 #[.int .u64 n] w fun e w' => e = .returned (.string ⟨(hexDigits n).toArray⟩) ∧ ∃ m, w' = w.drewN m := by
  go_enter Tryd.func18, Tryd.ntmps18
  go_wp2_with fail
  (with_reducible refine (write16 n n _ (Nat.le_refl _) hn).mono ?_); rintro e w1 ⟨rfl, m, rfl⟩
  go_wp2_with fail
  go_ret
  exact ⟨rfl, _, rfl⟩
theorem refHexText (n : Nat) (w : World) (hn : n < 18446744073709551616) :
    Calls Tryd.prog 18 #[.int .u64 n] w fun e w' => e = .returned (.string ⟨(hexDigits n).toArray⟩) ∧ Below w.heap.size w w' :=
  (refHexText_q n w hn).mono fun _ _ ⟨h, m, hm⟩ => ⟨h, by rw [hm]; exact below_drewN (Below.refl _ _) _⟩
set_option maxHeartbeats 1000000 in
theorem refPrefix (s : ByteArray) (hex : Bool) (w : World) (hs : s.size ≤ 9223372036854775807) :
    Calls Tryd.prog 20 #[.string s, .bool hex] w fun e w' => e = .returned (.int .i64 (pfx hex s.data.toList)) ∧ w = w' := by
  go_enter Tryd.func20, Tryd.ntmps20
  go_wp2_with fail
  go_loop [5] (fun i => ∃ k : Nat, k ≤ s.size ∧ i = .int .i64 k ∧ Hid (pfx hex s.data.toList = k + pfx hex (s.data.toList.drop k))) (fun i => s.size - (intOf i).toNat)
  case atStart => exact ⟨0, Nat.zero_le _, rfl, (by simp : pfx hex s.data.toList = 0 + pfx hex (s.data.toList.drop 0))⟩
  case round =>
    obtain ⟨k, hk, rfl, HP⟩ := hrel
    by_cases hlt : k < s.size
    · have hlt' : k < s.data.toList.length := by rw [size_l]; exact hlt
      by_cases hd : dvN hex s[k].toNat < 16
      · have HN := Lib.hid (pfx_yes hex s.data.toList k hlt' hd)
        have HV := Lib.hid (fun w => value_yes s[k].toNat hex w (byte_le s k hlt) hd)
        clear hd
        go_wp2_with fail
        (with_reducible refine (HV.out _).mono ?_); rintro e w1 ⟨rfl, rfl⟩
        go_wp2_with fail
        go_round
        case rel => exact ⟨k + 1, by omega, by go_num, (by rw [HP.out, HN.out]; omega : pfx hex s.data.toList = (k + 1) + pfx hex (s.data.toList.drop (k + 1)))⟩
        case measure => simp [intOf]; omega
      · have HN := Lib.hid (pfx_no hex s.data.toList k hlt' hd)
        have HV := Lib.hid (fun w => value_no s[k].toNat hex w (byte_le s k hlt) hd)
        clear hd
        go_wp2_with fail
        (with_reducible refine (HV.out _).mono ?_); rintro e w1 ⟨rfl, rfl⟩
        go_wp2_with fail
        go_ret
        exact ⟨ret_int (by rw [HP.out, HN.out]; rfl), rfl⟩
    · go_wp2_with fail
      go_ret
      exact ⟨ret_int (by rw [HP.out, List.drop_eq_nil_of_le (by rw [size_l]; omega)]; simp [pfx]), rfl⟩
end Go.Proofs.YtjdapggdajkphaaDoor
