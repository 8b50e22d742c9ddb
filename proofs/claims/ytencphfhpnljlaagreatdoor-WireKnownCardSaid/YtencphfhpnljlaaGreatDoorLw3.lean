/-
  waypostlaw11: times.
-/
import Derived.Test.YtencphfhpnljlaaGreatDoorLw1
namespace Go.Proofs.YtencphfhpnljlaaGreatDoor
open Go.RowKit

def timesT (s : List UInt8) (n : Nat) : List UInt8 := (List.replicate n s).flatten
theorem times_succ (s : List UInt8) (k : Nat) : timesT s (k + 1) = timesT s k ++ s := by
  unfold timesT
  rw [List.replicate_succ', List.flatten_append]
  simp
theorem times_len (s : List UInt8) : ∀ k, (timesT s k).length = k * s.length
  | 0 => by simp [timesT]
  | k + 1 => by rw [times_succ, List.length_append, times_len s k, Nat.add_mul, Nat.one_mul]
theorem bs_cat (l m : List UInt8) : bs l ++ bs m = bs (l ++ m) := by
  apply ba_ext
  rw [append_toList, bs_list, bs_list, bs_list]
set_option maxRecDepth 100000 in
set_option maxHeartbeats 4000000 in
theorem pTimes (s : List UInt8) (n : Nat) (z : Int) (hz : z = (n : Int)) (w : World) (hs : s.length ≤ 100) (hn : n ≤ 5000) :
    Calls Tryz.prog 18 #[.string (bs s), .int .i64 z] w fun e w' => e = .returned (.string (bs (timesT s n))) ∧ w' = w := by
  subst hz
  have z0 := bs_size s
  obtain ⟨S, hS⟩ : ∃ S, bs s = S := ⟨_, rfl⟩
  have HS := Lib.hid hS
  rw [hS] at z0 ⊢
  clear hS
  go_enter Tryz.func18, Tryz.ntmps18
  go_wp2_with fail
  go_loop [5, 6] (fun o i => ∃ k : Nat, i = .int .i64 k ∧ k ≤ n ∧ o = .string (bs (timesT s k))) (fun _ i => n - (intOf i).toNat)
  case atStart => exact ⟨0, rfl, by omega, rfl⟩
  case round =>
    obtain ⟨k, rfl, hk, rfl⟩ := hrel
    by_cases hlt : k < n
    · have i1 : (k : Int) < (n : Int) := by omega
      have hl := times_len s k
      have hl2 : k * s.length ≤ 5000 * 100 := Nat.mul_le_mul (by omega) hs
      have zt := bs_size (timesT s k)
      have hc : bs (timesT s k) ++ S = bs (timesT s (k + 1)) := by rw [times_succ, ← HS.out]; exact bs_cat _ _
      obtain ⟨T, hT⟩ : ∃ T, bs (timesT s k) = T := ⟨_, rfl⟩
      rw [hT] at zt hc ⊢
      have HC := Lib.hid hc
      have s1 : T.size ≤ 500000 := by omega
      have s2 : S.size ≤ 100 := by omega
      clear hc hT hl hl2 zt
      go_wp2_with fail
      go_round
      case rel => exact ⟨k + 1, by go_num, by omega, by rw [HC.out]⟩
      case measure => simp [intOf]; omega
    · obtain rfl : k = n := by omega
      have hd : decide ((k : Int) < (k : Int)) = false := by simp
      go_wp2_with fail
      go_ret
      exact ⟨rfl, rfl⟩
end Go.Proofs.YtencphfhpnljlaaGreatDoor
