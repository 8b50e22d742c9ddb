/-
  NumberBack: what is written is read back, with just so many digits and so great a number; one digit less or a lesser greatest number brings an error. The walk of the statement's function, for every uint64, int and uint64.
-/
import Derived.Test.YtjdapggdajkphaaDoorNumL1
namespace Go.Proofs.YtjdapggdajkphaaDoor
open Go.RowKit

set_option maxRecDepth 100000 in
set_option maxHeartbeats 2000000 in
theorem NumberBack_true (n : Nat) (more : Int) (by_ : Nat) (w : World) (hn : n < 18446744073709551616) (hm0 : -9223372036854775808 ≤ more) (hm1 : more ≤ 9223372036854775807) (hby : by_ < 18446744073709551616) (htab : Tabs w) :
    Calls Tryd.prog 3 #[.int .u64 n, .int .i64 more, .int .u64 by_] w fun r w' => r = .returned (.bool true) ∧ Below w.heap.size w w' := by
  obtain ⟨k, hk⟩ : ∃ k : Int, more % 41 = k := ⟨_, rfl⟩
  have hk0 : 0 ≤ k := by rw [← hk]; exact Int.emod_nonneg _ (by omega)
  have hk1 : k < 41 := by rw [← hk]; exact Int.emod_lt_of_pos _ (by omega)
  have cM : ∀ w, Calls Tryd.prog 9 #[.int .i64 more, .int .i64 41] w fun e w' => e = .returned (.int .i64 k) ∧ w = w' := fun w => by
    have := Mod_any more 41 w hm0 hm1 (by omega) (by omega)
    rw [hk] at this
    exact this
  obtain ⟨d1, d2, d3⟩ := dec_facts n
  obtain ⟨x1, x2, x3⟩ := hex_facts n
  have dl := decDigits_le n hn
  have xl := hexDigits_le16 n hn
  have cD := DecText_any n hn
  have cX := HexText_any n hn
  obtain ⟨ds, hds⟩ : ∃ ds : ByteArray, (⟨(Lib.decDigits n).toArray⟩ : ByteArray) = ds := ⟨_, rfl⟩
  obtain ⟨xs, hxs⟩ : ∃ xs : ByteArray, (⟨(hexDigits n).toArray⟩ : ByteArray) = xs := ⟨_, rfl⟩
  have eds : Lib.decDigits n = ds.data.toList := by rw [← hds]
  have exs : hexDigits n = xs.data.toList := by rw [← hxs]
  simp only [hds] at cD
  simp only [hxs] at cX
  rw [eds] at d1 d2 d3 dl
  rw [exs] at x1 x2 x3 xl
  rw [size_l] at dl xl
  have hds0 : ds.size ≤ 9223372036854775807 := by omega
  have hxs0 : xs.size ≤ 9223372036854775807 := by omega
  have sd := size_l ds
  have sx := size_l xs
  -- the seven calls
  have c1 : ∀ w, Calls Tryd.prog 12 #[.string ds, .int .i64 ds.size, .int .u64 n, .int .u64 n, .int .i64 0] w fun r w' => r = .returned (.bool true) ∧ w = w' := fun w => dec_yes ds _ n n 0 w hds0 (rd_of _ _ _ _ _ d3 d1 d2 hn (by omega) (by omega))
  have c2 : ∀ w, Calls Tryd.prog 13 #[.string xs, .int .i64 xs.size, .int .u64 n, .int .u64 n, .int .i64 0] w fun r w' => r = .returned (.bool true) ∧ Below w.heap.size w w' := fun w => hex_yes xs _ n n 0 w hxs0 (rd_of _ _ _ _ _ x3 x1 x2 hn (by omega) (by omega))
  have c3 : ∀ (most : Nat) (mI : Int) w, mI = most → n ≤ most → Calls Tryd.prog 12 #[.string ds, .int .i64 ((ds.size : Int) + k), .int .u64 mI, .int .u64 n, .int .i64 0] w fun r w' => r = .returned (.bool true) ∧ w = w' := fun most mI w e h => by subst e; exact dec_yes ds _ most n 0 w hds0 (rd_of _ _ _ _ _ d3 d1 d2 hn (by omega) h)
  have c4 : ∀ (most : Nat) (mI : Int) w, mI = most → n ≤ most → Calls Tryd.prog 13 #[.string xs, .int .i64 ((xs.size : Int) + k), .int .u64 mI, .int .u64 n, .int .i64 0] w fun r w' => r = .returned (.bool true) ∧ Below w.heap.size w w' := fun most mI w e h => by subst e; exact hex_yes xs _ most n 0 w hxs0 (rd_of _ _ _ _ _ x3 x1 x2 hn (by omega) h)
  have c5 : ∀ w, Calls Tryd.prog 12 #[.string ds, .int .i64 ((ds.size : Int) - 1), .int .u64 n, .int .u64 0, .int .i64 4] w fun r w' => r = .returned (.bool true) ∧ w = w' := fun w => dec_yes ds _ n 0 4 w hds0 (rd_of_long _ _ _ _ d3 d1 (by omega))
  have c6 : ∀ w, n ≠ 0 → Calls Tryd.prog 12 #[.string ds, .int .i64 (ds.size : Int), .int .u64 ((n : Int) - 1), .int .u64 0, .int .i64 2] w fun r w' => r = .returned (.bool true) ∧ w = w' := fun w h => by
    have := dec_yes ds (ds.size : Int) (n - 1) 0 2 w hds0 (rd_of_range _ _ _ _ n d3 d1 d2 (by omega) (by omega))
    rw [show ((n - 1 : Nat) : Int) = (n : Int) - 1 by omega] at this
    exact this
  have CM := Lib.hid cM
  have CD := Lib.hid cD
  have CX := Lib.hid cX
  have C1 := Lib.hid c1
  have C2 := Lib.hid c2
  have C3 := Lib.hid c3
  have C4 := Lib.hid c4
  have C5 := Lib.hid c5
  have C6 := Lib.hid c6
  clear cM cD cX c1 c2 c3 c4 c5 c6 d1 d2 d3 x1 x2 x3 eds exs hds hxs sd sx hk
  by_cases hbb : by_ + n ≤ 18446744073709551615
  all_goals
    by_cases hz : n = 0
    all_goals
      have hzb : ((n : Int) == 0) = decide (n = 0) := by rw [Bool.eq_iff_iff]; simp
      first | rw [decide_eq_true hz] at hzb | rw [decide_eq_false hz] at hzb
      have HZ := Lib.hid hz
      try have hpos : 1 ≤ n := by omega
      clear hz
      go_enter Tryd.func3, Tryd.ntmps3
      go_wp2_with fail
      (with_reducible refine (CM.out _).mono ?_); rintro e w' ⟨rfl, rfl⟩
      go_wp2_with fail
      (with_reducible refine (CD.out _ htab).mono ?_); rintro e w1 ⟨rfl, hb1⟩
      have ht1 := htab.below hb1
      go_wp2_with fail
      (with_reducible refine (CX.out _ ht1).mono ?_); rintro e w2 ⟨rfl, hb2⟩
      have hb2' := hb1.trans (hb2.mono hb1.size)
      go_wp2_with fail
      (with_reducible refine (C1.out _).mono ?_); rintro e w' ⟨rfl, rfl⟩
      go_wp2_with fail
      (with_reducible refine (C2.out _).mono ?_); rintro e w3 ⟨rfl, hb3⟩
      have hb3' := hb2'.trans (hb3.mono hb2'.size)
      go_wp2_with fail
      first
        | ((with_reducible refine (C3.out n n _ rfl (Nat.le_refl _)).mono ?_); rintro e w' ⟨rfl, rfl⟩)
        | ((with_reducible refine (C3.out (n + by_) ((n : Int) + by_) _ (by omega) (by omega)).mono ?_); rintro e w' ⟨rfl, rfl⟩)
      go_wp2_with fail
      first
        | ((with_reducible refine (C4.out n n _ rfl (Nat.le_refl _)).mono ?_); rintro e w4 ⟨rfl, hb4⟩)
        | ((with_reducible refine (C4.out (n + by_) ((n : Int) + by_) _ (by omega) (by omega)).mono ?_); rintro e w4 ⟨rfl, hb4⟩)
      have hb4' := hb3'.trans (hb4.mono hb3'.size)
      have ht4 := htab.below hb4'
      go_wp2_with fail
      (with_reducible refine (C5.out _).mono ?_); rintro e w' ⟨rfl, rfl⟩
      go_wp2_with fail
      first | (go_at_call 12; (with_reducible refine (C6.out _ HZ.out).mono ?_); rintro e w' ⟨rfl, rfl⟩) | skip
      go_wp2_with fail
      refine (awake_true _ ht4).mono ?_; rintro e w5 ⟨rfl, hb5⟩
      go_wp2_with fail
      go_ret
      exact ⟨rfl, hb4'.trans (hb5.mono hb4'.size)⟩
end Go.Proofs.YtjdapggdajkphaaDoor
