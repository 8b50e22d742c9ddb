/-
  Plain facts on sets of bytes as four words. No program in sight.
-/
import Derived.WalkKit
namespace Go.Proofs.YthhlnpfcpgfcfaaGreatDoor

def bitsN (p : Nat → Bool) : Nat → Nat
  | 0 => 0
  | n + 1 => bitsN p n ||| (if p n = true then 2 ^ n else 0)
theorem testBit_bitsN (p : Nat → Bool) (n i : Nat) : (bitsN p n).testBit i = (decide (i < n) && p i) := by
  induction n with
  | zero => simp [bitsN]
  | succ n ih =>
    rw [bitsN, Nat.testBit_or, ih]
    by_cases hp : p n = true
    · rw [if_pos hp, Nat.testBit_two_pow]
      by_cases h : i = n
      · subst h; simp [hp]
      · have : decide (n = i) = false := by simp; omega
        rw [this, Bool.or_false]
        congr 1
        simp only [decide_eq_decide]
        omega
    · rw [if_neg hp, Nat.zero_testBit, Bool.or_false]
      by_cases h : i = n
      · subst h; simp [hp]
      · congr 1
        simp only [decide_eq_decide]
        omega
theorem bitsN_lt (p : Nat → Bool) (n : Nat) : bitsN p n < 2 ^ n := by
  induction n with
  | zero => simp [bitsN]
  | succ n ih =>
    rw [bitsN]
    refine Nat.or_lt_two_pow (by rw [Nat.pow_succ]; omega) ?_
    split
    · rw [Nat.pow_succ]; have := Nat.two_pow_pos n; omega
    · exact Nat.two_pow_pos _
/-- the k-th word of the set of the bytes that p names -/
def word (p : Nat → Bool) (k : Nat) : Nat := bitsN (fun i => p (64 * k + i)) 64
theorem word_lt (p : Nat → Bool) (k : Nat) : word p k < 18446744073709551616 := bitsN_lt _ 64
theorem word_bit (p : Nat → Bool) (k i : Nat) (h : i < 64) : (word p k).testBit i = p (64 * k + i) := by
  rw [word, testBit_bitsN]; simp [h]
theorem word_ext (a b : Nat) (ha : a < 18446744073709551616) (hb : b < 18446744073709551616) (h : ∀ i, i < 64 → a.testBit i = b.testBit i) : a = b := by
  apply Nat.eq_of_testBit_eq
  intro i
  by_cases hi : i < 64
  · exact h i hi
  · rw [Nat.testBit_lt_two_pow (Nat.lt_of_lt_of_le ha (show 18446744073709551616 ≤ 2 ^ i from Nat.pow_le_pow_right (n := 2) (by omega) (show 64 ≤ i by omega))),
      Nat.testBit_lt_two_pow (Nat.lt_of_lt_of_le hb (show 18446744073709551616 ≤ 2 ^ i from Nat.pow_le_pow_right (n := 2) (by omega) (show 64 ≤ i by omega)))]
theorem word_or (p q : Nat → Bool) (k : Nat) : word p k ||| word q k = word (fun b => p b || q b) k := by
  refine word_ext _ _ (Nat.or_lt_two_pow (n := 64) (word_lt p k) (word_lt q k)) (word_lt _ k) fun i hi => ?_
  rw [Nat.testBit_or, word_bit _ _ _ hi, word_bit _ _ _ hi, word_bit _ _ _ hi]
theorem word_and (p q : Nat → Bool) (k : Nat) : word p k &&& word q k = word (fun b => p b && q b) k := by
  refine word_ext _ _ (Nat.and_lt_two_pow (n := 64) _ (word_lt q k)) (word_lt _ k) fun i hi => ?_
  rw [Nat.testBit_and, word_bit _ _ _ hi, word_bit _ _ _ hi, word_bit _ _ _ hi]
theorem word_none (k : Nat) : word (fun _ => false) k = 0 := by
  refine word_ext _ _ (word_lt _ k) (by omega) fun i hi => ?_
  rw [word_bit _ _ _ hi, Nat.zero_testBit]
theorem word_all (k : Nat) : word (fun _ => true) k = 18446744073709551615 := by
  refine word_ext _ _ (word_lt _ k) (by omega) fun i hi => ?_
  rw [word_bit _ _ _ hi, show (18446744073709551615 : Nat) = 2 ^ 64 - 1 by decide, Nat.testBit_two_pow_sub_one]; simp [hi]
/-- one byte put into its word -/
theorem word_put (p : Nat → Bool) (b : Nat) : word p (b / 64) ||| 2 ^ (b % 64) = word (fun x => p x || decide (x = b)) (b / 64) := by
  refine word_ext _ _ (Nat.or_lt_two_pow (n := 64) (word_lt p _) (Nat.pow_lt_pow_right (by omega) (Nat.mod_lt _ (by omega)))) (word_lt _ _) fun i hi => ?_
  rw [Nat.testBit_or, word_bit _ _ _ hi, word_bit _ _ _ hi, Nat.testBit_two_pow]
  congr 1
  simp only [decide_eq_decide]
  omega
theorem word_put_other (p : Nat → Bool) (b k : Nat) (h : k ≠ b / 64) : word (fun x => p x || decide (x = b)) k = word p k := by
  refine word_ext _ _ (word_lt _ _) (word_lt _ _) fun i hi => ?_
  rw [word_bit _ _ _ hi, word_bit _ _ _ hi]
  have : decide (64 * k + i = b) = false := by simp; omega
  rw [this, Bool.or_false]
/-- is a byte in a set -/
theorem word_has (p : Nat → Bool) (b : Nat) : (word p (b / 64) >>> (b % 64)) &&& 1 = if p b = true then 1 else 0 := by
  have h := word_bit p (b / 64) (b % 64) (Nat.mod_lt _ (by omega))
  rw [show 64 * (b / 64) + b % 64 = b by omega, Nat.testBit, Nat.and_comm] at h
  rw [← h]
  have h2 : (word p (b / 64) >>> (b % 64)) &&& 1 = 0 ∨ (word p (b / 64) >>> (b % 64)) &&& 1 = 1 := by rw [Nat.and_one_is_mod]; omega
  rcases h2 with h2 | h2 <;> rw [h2] <;> rfl
theorem word_congr (p q : Nat → Bool) (k : Nat) (hk : k < 4) (h : ∀ b, b < 256 → p b = q b) : word p k = word q k := by
  refine word_ext _ _ (word_lt _ _) (word_lt _ _) fun i hi => ?_
  rw [word_bit _ _ _ hi, word_bit _ _ _ hi]
  exact h _ (by omega)
end Go.Proofs.YthhlnpfcpgfcfaaGreatDoor
