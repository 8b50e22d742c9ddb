/-
  Plain facts on lists of tokens: the elements between commas, trimmed, in small letters. No program in sight.
-/
import Derived.Test.YthhlnpfcpgfcfaaGreatDoorTk5
namespace Go.Proofs.YthhlnpfcpgfcfaaGreatDoor
open Go.RowKit

/-- an element that is neither empty nor a token -/
def badE (x : List UInt8) : Bool := !(trimL x).isEmpty && !isTok (trimL x)
/-- what an element gives -/
def pickE (x : List UInt8) : Option (List UInt8) := if (trimL x).isEmpty then none else some (lowL (trimL x))
/-- the tokens of a list, or the error -/
def listT (l : List UInt8) : List (List UInt8) × Nat :=
  if 1024 < l.length then ([], 4) else if isVal l = false then ([], 3) else if (splitC 44 l).any badE then ([], 3) else ((splitC 44 l).filterMap pickE, 0)
def strs (xs : List (List UInt8)) : List Value := xs.map fun x => .string (bs x)
theorem strs_len (xs : List (List UInt8)) : (strs xs).length = xs.length := by simp [strs]
theorem strs_app (xs ys : List (List UInt8)) : strs (xs ++ ys) = strs xs ++ strs ys := by simp [strs]
theorem strs_at (xs : List (List UInt8)) (k : Nat) (h : k < xs.length) : (strs xs)[k]? = some (.string (bs xs[k])) := by
  simp [strs, h]
theorem strs_one (xs : List (List UInt8)) : ∀ u ∈ strs xs, u.oneCell' = true := by
  intro u hu
  obtain ⟨x, _, rfl⟩ := List.mem_map.1 hu
  rfl

theorem split_none (c : UInt8) (l : List UInt8) (h : ∀ b ∈ l, b ≠ c) : splitC c l = [l] := by
  induction l with
  | nil => rfl
  | cons b l ih => exact splitC_step c b l l [] (h b (by simp)) (ih fun x hx => h x (by simp [hx]))
theorem split_at (c : UInt8) (a r : List UInt8) (h : ∀ b ∈ a, b ≠ c) : splitC c (a ++ c :: r) = a :: splitC c r := by
  induction a with
  | nil => simp [splitC]
  | cons b a ih => exact splitC_step c b _ a (splitC c r) (h b (by simp)) (ih fun x hx => h x (by simp [hx]))
theorem lowB_low (b : UInt8) : lowB (lowB b) = lowB b := by
  by_cases h : 65 ≤ b.toNat ∧ b.toNat ≤ 90
  · exact lowB_no (by rw [lowB_up h]; omega)
  · rw [lowB_no h, lowB_no h]
theorem lowL_low (l : List UInt8) : lowL (lowL l) = lowL l := by
  simp [lowL, lowB_low]
/-- each token of a list is in small letters -/
theorem listT_low (l : List UInt8) : ∀ x ∈ (listT l).1, lowL x = x := by
  intro x hx
  unfold listT at hx
  split at hx
  · simp at hx
  · split at hx
    · simp at hx
    · split at hx
      · simp at hx
      · obtain ⟨a, _, ha⟩ := List.mem_filterMap.1 hx
        unfold pickE at ha
        split at ha
        · simp at ha
        · injection ha with ha
          rw [← ha, lowL_low]
theorem lowL_len (l : List UInt8) : (lowL l).length = l.length := by simp [lowL]
theorem filterMap_len (xs : List (List UInt8)) : (xs.filterMap pickE).length ≤ xs.length := List.length_filterMap_le _ _
theorem listT_len (l : List UInt8) : (listT l).1.length ≤ 1025 ∧ ∀ x ∈ (listT l).1, x.length ≤ 1024 := by
  unfold listT
  split
  · simp
  · split
    · simp
    · split
      · simp
      · rename_i h _ _
        obtain ⟨h1, h2⟩ := splitC_len 44 l
        refine ⟨by have := filterMap_len (splitC 44 l); simp only; omega, fun x hx => ?_⟩
        obtain ⟨a, ha, hp⟩ := List.mem_filterMap.1 hx
        have := h2 a ha
        unfold pickE at hp
        split at hp
        · simp at hp
        · injection hp with hp
          rw [← hp, lowL_len]
          have := trimL_le a
          omega
end Go.Proofs.YthhlnpfcpgfcfaaGreatDoor
