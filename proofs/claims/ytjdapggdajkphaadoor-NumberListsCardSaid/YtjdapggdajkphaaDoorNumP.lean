/-
  Plain arithmetic of numbers as texts: digits, values, prefixes. No program in sight. Used by the walks and the laws over package number.
-/
import Derived.WalkKit
namespace Go.Proofs.YtjdapggdajkphaaDoor

/-- the value of a byte as a digit; 16 if it is none -/
def dvN (hex : Bool) (b : Nat) : Nat := if 48 ≤ b ∧ b ≤ 57 then b - 48 else if hex = true ∧ 97 ≤ b ∧ b ≤ 102 then b - 87 else if hex = true ∧ 65 ≤ b ∧ b ≤ 70 then b - 55 else 16
def isD (hex : Bool) (b : UInt8) : Bool := decide (dvN hex b.toNat < 16)
/-- how many digits a text begins with -/
def pfx (hex : Bool) (l : List UInt8) : Nat := (l.takeWhile (isD hex)).length
def baseN (hex : Bool) : Nat := if hex = true then 16 else 10
/-- the number that digits are, on top of an accumulated one -/
def valA (hex : Bool) : Nat → List UInt8 → Nat
  | n, [] => n
  | n, b :: l => valA hex (n * baseN hex + dvN hex b.toNat) l
/-- what reading gives: the number, the error -/
def rdN (hex : Bool) (l : List UInt8) (digits : Int) (most : Nat) : Nat × Nat :=
  if l = [] ∨ pfx hex l < l.length then (0, 3) else if digits < (l.length : Int) then (0, 4)
  else if 18446744073709551615 < valA hex 0 l ∨ most < valA hex 0 l then (0, 2) else (valA hex 0 l, 0)

theorem dvN_f (b : Nat) : (48 ≤ b ∧ b ≤ 57 ∧ dvN false b = b - 48) ∨ ((b < 48 ∨ 57 < b) ∧ dvN false b = 16) := by
  simp only [dvN, Bool.false_eq_true, false_and, if_false]
  split <;> omega
theorem dvN_t (b : Nat) : (48 ≤ b ∧ b ≤ 57 ∧ dvN true b = b - 48) ∨ (97 ≤ b ∧ b ≤ 102 ∧ dvN true b = b - 87) ∨ (65 ≤ b ∧ b ≤ 70 ∧ dvN true b = b - 55) ∨
    ((b < 48 ∨ 57 < b) ∧ (b < 97 ∨ 102 < b) ∧ (b < 65 ∨ 70 < b) ∧ dvN true b = 16) := by
  simp only [dvN, true_and]
  repeat' split
  all_goals omega
theorem dvN_lt_base (hex : Bool) (b : Nat) (h : dvN hex b < 16) : dvN hex b < baseN hex := by
  cases hex
  · simp only [dvN, baseN, Bool.false_eq_true, false_and, if_false] at *
    split at h
    · rw [if_pos (by assumption)]; omega
    · omega
  · exact h
theorem pfx_le (hex : Bool) (l : List UInt8) : pfx hex l ≤ l.length := by
  unfold pfx
  induction l with
  | nil => simp
  | cons a l ih => simp only [List.takeWhile_cons]; split <;> simp <;> omega
theorem pfx_yes (hex : Bool) (l : List UInt8) (k : Nat) (h : k < l.length) (hd : dvN hex l[k].toNat < 16) : pfx hex (l.drop k) = 1 + pfx hex (l.drop (k + 1)) := by
  unfold pfx
  rw [List.drop_eq_getElem_cons h, List.takeWhile_cons, if_pos (by simpa [isD] using hd)]
  simp [Nat.add_comm]
theorem pfx_no (hex : Bool) (l : List UInt8) (k : Nat) (h : k < l.length) (hd : ¬ dvN hex l[k].toNat < 16) : pfx hex (l.drop k) = 0 := by
  unfold pfx
  rw [List.drop_eq_getElem_cons h, List.takeWhile_cons, if_neg (by simpa [isD] using hd)]
  rfl
theorem valA_ge (hex : Bool) (l : List UInt8) : ∀ n, n ≤ valA hex n l := by
  induction l with
  | nil => intro n; exact Nat.le_refl _
  | cons b l ih =>
    intro n
    have := ih (n * baseN hex + dvN hex b.toNat)
    have h1 : n * 1 ≤ n * baseN hex := Nat.mul_le_mul_left _ (by unfold baseN; split <;> omega)
    simp only [valA]; omega
theorem valA_drop (hex : Bool) (l : List UInt8) (k n : Nat) (h : k < l.length) : valA hex n (l.drop k) = valA hex (n * baseN hex + dvN hex l[k].toNat) (l.drop (k + 1)) := by
  rw [List.drop_eq_getElem_cons h]; rfl
theorem all_of_pfx (hex : Bool) (l : List UInt8) (h : ¬ pfx hex l < l.length) (k : Nat) (hk : k < l.length) : dvN hex l[k].toNat < 16 := by
  induction l generalizing k with
  | nil => simp at hk
  | cons b l ih =>
    unfold pfx at h
    rw [List.takeWhile_cons] at h
    split at h
    · rename_i hb
      cases k with
      | zero => simpa [isD] using hb
      | succ k => exact ih (by unfold pfx; simpa using h) k (by simpa using hk)
    · simp at h
end Go.Proofs.YtjdapggdajkphaaDoor
