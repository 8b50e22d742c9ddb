/-
  The reference of chunked bodies: a digit.
-/
import Derived.Test.YtkbihipgnlglbaaGreatDoorProg
import Derived.Test.YtkbihipgnlglbaaGreatDoorBase
import Derived.Test.YtkbihipgnlglbaaGreatDoorCh0
namespace Go.Proofs.YtkbihipgnlglbaaGreatDoor
open Go.RowKit

/-- a digit's value, or -1 -/
def digI (b : UInt8) : Int := match hexV b with
  | some v => (v : Int)
  | none => -1
theorem rDigit (b : UInt8) (w : World) : Calls Tryz.prog 46 #[.int .u8 (b.toNat : Int)] w fun e w' => e = .returned (.int .i64 (digI b)) ∧ w = w' := by
  obtain ⟨n, hn⟩ : ∃ n, b.toNat = n := ⟨_, rfl⟩
  have hlt : n < 256 := by rw [← hn]; exact b.toNat_lt
  have hd : digI b = if 48 ≤ n ∧ n ≤ 57 then (n : Int) - 48 else if 97 ≤ n ∧ n ≤ 102 then (n : Int) - 97 + 10 else if 65 ≤ n ∧ n ≤ 70 then (n : Int) - 65 + 10 else -1 := by
    unfold digI hexV
    rw [hn]
    split
    · rename_i v h
      split at h
      · rename_i hc; injection h with h; rw [if_pos hc]; omega
      · rename_i hc; rw [if_neg hc]
        split at h
        · rename_i hc; injection h with h; rw [if_pos hc]; omega
        · rename_i hc; rw [if_neg hc]
          split at h
          · rename_i hc; injection h with h; rw [if_pos hc]; omega
          · cases h
    · rename_i h
      split at h
      · cases h
      · rename_i hc; rw [if_neg hc]
        split at h
        · cases h
        · rename_i hc; rw [if_neg hc]
          split at h
          · cases h
          · rename_i hc; rw [if_neg hc]
  rw [hd, hn]
  clear hd hn
  by_cases h1 : 48 ≤ n ∧ n ≤ 57
  · rw [if_pos h1]
    have i1 : (48 : Int) ≤ (n : Int) := by omega
    have i2 : (n : Int) ≤ 57 := by omega
    go_enter Tryz.func46, Tryz.ntmps46
    go_wp2_with fail
    go_ret
    exact ⟨rfl, rfl⟩
  · rw [if_neg h1]
    by_cases h2 : 97 ≤ n ∧ n ≤ 102
    · rw [if_pos h2]
      have i1 : (97 : Int) ≤ (n : Int) := by omega
      have i2 : (n : Int) ≤ 102 := by omega
      have i3 : (48 : Int) ≤ (n : Int) := by omega
      have i4 : (57 : Int) < (n : Int) := by omega
      go_enter Tryz.func46, Tryz.ntmps46
      go_wp2_with fail
      go_ret
      exact ⟨rfl, rfl⟩
    · rw [if_neg h2]
      by_cases h3 : 65 ≤ n ∧ n ≤ 70
      · rw [if_pos h3]
        have i0 : (48 : Int) ≤ (n : Int) := by omega
        have i1 : (57 : Int) < (n : Int) := by omega
        have i2 : (n : Int) < 97 := by omega
        have i3 : (65 : Int) ≤ (n : Int) := by omega
        have i4 : (n : Int) ≤ 70 := by omega
        go_enter Tryz.func46, Tryz.ntmps46
        go_wp2_with fail
        go_ret
        exact ⟨rfl, rfl⟩
      · rw [if_neg h3]
        obtain h4 | h4 | h4 | h4 : n < 48 ∨ (57 < n ∧ n < 65) ∨ (70 < n ∧ n < 97) ∨ 102 < n := by omega
        · have i0 : (n : Int) < 48 := by omega
          have i1 : (n : Int) < 97 := by omega
          have i2 : (n : Int) < 65 := by omega
          go_enter Tryz.func46, Tryz.ntmps46
          go_wp2_with fail
          go_ret
          exact ⟨rfl, rfl⟩
        · have i0 : (48 : Int) ≤ (n : Int) := by omega
          have i1 : (57 : Int) < (n : Int) := by omega
          have i2 : (n : Int) < 97 := by omega
          have i3 : (n : Int) < 65 := by omega
          go_enter Tryz.func46, Tryz.ntmps46
          go_wp2_with fail
          go_ret
          exact ⟨rfl, rfl⟩
        · have i0 : (48 : Int) ≤ (n : Int) := by omega
          have i1 : (57 : Int) < (n : Int) := by omega
          have i2 : (n : Int) < 97 := by omega
          have i3 : (65 : Int) ≤ (n : Int) := by omega
          have i4 : (70 : Int) < (n : Int) := by omega
          go_enter Tryz.func46, Tryz.ntmps46
          go_wp2_with fail
          go_ret
          exact ⟨rfl, rfl⟩
        · have i0 : (48 : Int) ≤ (n : Int) := by omega
          have i1 : (57 : Int) < (n : Int) := by omega
          have i2 : (97 : Int) ≤ (n : Int) := by omega
          have i3 : (102 : Int) < (n : Int) := by omega
          have i4 : (65 : Int) ≤ (n : Int) := by omega
          have i5 : (70 : Int) < (n : Int) := by omega
          go_enter Tryz.func46, Tryz.ntmps46
          go_wp2_with fail
          go_ret
          exact ⟨rfl, rfl⟩
end Go.Proofs.YtkbihipgnlglbaaGreatDoor
