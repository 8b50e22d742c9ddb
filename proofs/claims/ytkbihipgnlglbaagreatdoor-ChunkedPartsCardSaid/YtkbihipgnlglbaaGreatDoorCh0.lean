/-
  Chunked bodies in plain words: a decoder, what a byte does, what feeding does. No program in sight.
-/
import Derived.Test.YtkbihipgnlglbaaGreatDoorTk5
namespace Go.Proofs.YtkbihipgnlglbaaGreatDoor
open Go.RowKit

/-- a decoder -/
structure Ck where
  st : Nat
  size : Nat
  digits : Nat
  left : Nat
  body : List UInt8
  line : List UInt8
  lines : Nat
  status : Nat
deriving DecidableEq
/-- the value of a hexadecimal digit -/
def hexV (b : UInt8) : Option Nat :=
  if 48 ≤ b.toNat ∧ b.toNat ≤ 57 then some (b.toNat - 48) else if 97 ≤ b.toNat ∧ b.toNat ≤ 102 then some (b.toNat - 87) else if 65 ≤ b.toNat ∧ b.toNat ≤ 70 then some (b.toNat - 55) else none
theorem hexV_lt {b : UInt8} {v : Nat} (h : hexV b = some v) : v < 16 := by
  unfold hexV at h
  split at h
  · injection h with h; omega
  · split at h
    · injection h with h; omega
    · split at h
      · injection h with h; omega
      · cases h
def newC : Ck := ⟨0, 0, 0, 0, [], [], 0, 0⟩
def badC (c : Ck) (s : Nat) : Ck := ⟨8, 0, 0, 0, c.body, [], 0, s⟩
/-- what a byte does to a decoder that is not at its end -/
def stepC (c : Ck) (b : UInt8) : Ck :=
  if c.st = 0 then
    match hexV b with
    | some v => if c.digits < 8 then ⟨0, 16 * c.size + v, c.digits + 1, c.left, c.body, c.line, c.lines, c.status⟩ else badC c 400
    | none => if b = 13 ∧ 0 < c.digits then ⟨1, c.size, c.digits, c.left, c.body, c.line, c.lines, c.status⟩ else badC c 400
  else if c.st = 1 then
    if b ≠ 10 then badC c 400 else if c.size = 0 then ⟨5, 0, 0, 0, c.body, [], 0, 0⟩ else if 2048 < c.body.length + c.size then badC c 413 else ⟨2, 0, 0, c.size, c.body, [], 0, 0⟩
  else if c.st = 2 then ⟨if c.left = 1 then 3 else 2, 0, 0, c.left - 1, c.body ++ [b], [], 0, 0⟩
  else if c.st = 3 then if b = 13 then ⟨4, 0, 0, 0, c.body, [], 0, 0⟩ else badC c 400
  else if c.st = 4 then if b = 10 then ⟨0, 0, 0, 0, c.body, [], 0, 0⟩ else badC c 400
  else if c.st = 5 then
    if b = 13 then ⟨6, 0, 0, 0, c.body, c.line, c.lines, 0⟩ else if b = 10 then badC c 400 else if (c.line = [] ∧ c.lines = 32) ∨ c.line.length = 512 then badC c 431 else ⟨5, 0, 0, 0, c.body, c.line ++ [b], c.lines, 0⟩
  else if c.st = 6 then
    if b ≠ 10 then badC c 400 else if c.line = [] then ⟨7, 0, 0, 0, c.body, [], c.lines, 0⟩ else if (colT c.line).2.2 ≠ 0 then badC c 400 else ⟨5, 0, 0, 0, c.body, [], c.lines + 1, 0⟩
  else c
def overC (c : Ck) : Bool := c.st == 7 || c.st == 8
/-- feeding: the decoder, and how many bytes were used -/
def feedC : Ck → List UInt8 → Ck × Nat
  | c, [] => (c, 0)
  | c, b :: r => if overC c then (c, 0) else ((feedC (stepC c b) r).1, (feedC (stepC c b) r).2 + 1)
def decodeT (s : List UInt8) : List UInt8 × Nat × Nat :=
  if (feedC newC s).1.st = 7 then ((feedC newC s).1.body, (feedC newC s).2, 200) else if (feedC newC s).1.st = 8 then ([], (feedC newC s).2, (feedC newC s).1.status) else ((feedC newC s).1.body, (feedC newC s).2, 0)
def restC (c : Ck) : Nat := 2048 - c.body.length - c.left
/-- the fields of a decoder go together -/
structure OkC (c : Ck) : Prop where
  st : c.st ≤ 8
  sized : c.st ≤ 1 ∨ (c.size = 0 ∧ c.digits = 0)
  size : c.size < 16 ^ c.digits
  digits : c.digits ≤ 8
  one : c.st = 1 → 0 < c.digits
  left : c.st = 2 ↔ 0 < c.left
  line : (c.st = 5 ∨ c.st = 6) ∨ c.line = []
  lines : (c.st = 5 ∨ c.st = 6 ∨ c.st = 7) ∨ c.lines = 0
  bad : c.st = 8 ↔ c.status ≠ 0
  status : c.status = 0 ∨ c.status = 400 ∨ c.status = 413 ∨ c.status = 431
  body : c.body.length + c.left ≤ 2048
  len : c.line.length ≤ 512
  max : c.lines ≤ 32
  more : c.line ≠ [] → c.lines < 32
  clean : ∀ b ∈ c.line, b ≠ 13 ∧ b ≠ 10
theorem okC_new : OkC newC := by
  constructor <;> simp [newC]
theorem okC_bad {c : Ck} (h : OkC c) (s : Nat) (hs : s = 400 ∨ s = 413 ∨ s = 431) : OkC (badC c s) := by
  have := h.body
  constructor <;> simp [badC] <;> omega
theorem okC_step {c : Ck} (h : OkC c) (b : UInt8) : OkC (stepC c b) := by
  have hb := h.body
  have hst := h.st
  unfold stepC
  by_cases h0 : c.st = 0
  · rw [if_pos h0]
    have hl : c.left = 0 := by have := h.left; omega
    have hn : c.line = [] := by rcases h.line with h | h; omega; exact h
    have hm : c.lines = 0 := by rcases h.lines with h | h; omega; exact h
    have hz : c.status = 0 := by have := h.bad; omega
    have hsz := h.size
    cases hv : hexV b with
    | some v =>
      have hv16 := hexV_lt hv
      simp only
      split
      · rename_i hd
        constructor <;> simp [hl, hn, hm, hz] <;> omega
      · exact okC_bad h _ (.inl rfl)
    | none =>
      simp only
      split
      · rename_i hd
        have := h.digits
        constructor <;> simp [hl, hn, hm, hz] <;> omega
      · exact okC_bad h _ (.inl rfl)
  rw [if_neg h0]
  by_cases h1 : c.st = 1
  · rw [if_pos h1]
    split
    · exact okC_bad h _ (.inl rfl)
    · split
      · constructor <;> simp <;> omega
      · split
        · exact okC_bad h _ (.inr (.inl rfl))
        · constructor <;> simp <;> omega
  rw [if_neg h1]
  by_cases h2 : c.st = 2
  · rw [if_pos h2]
    have hl := h.left
    by_cases hq : c.left = 1
    · rw [if_pos hq]
      constructor <;> simp <;> omega
    · rw [if_neg hq]
      constructor <;> simp <;> omega
  rw [if_neg h2]
  have hl : c.left = 0 := by have := h.left; omega
  by_cases h3 : c.st = 3
  · rw [if_pos h3]
    split
    · constructor <;> simp <;> omega
    · exact okC_bad h _ (.inl rfl)
  rw [if_neg h3]
  by_cases h4 : c.st = 4
  · rw [if_pos h4]
    split
    · constructor <;> simp <;> omega
    · exact okC_bad h _ (.inl rfl)
  rw [if_neg h4]
  have hmx := h.max
  have hlen := h.len
  by_cases h5 : c.st = 5
  · rw [if_pos h5]
    split
    · exact ⟨by simp, by simp, by simp, by simp, by simp, by simp, by simp, by simp, by simp, by simp, by simp; omega, hlen, hmx, h.more, h.clean⟩
    · split
      · exact okC_bad h _ (.inl rfl)
      · split
        · exact okC_bad h _ (.inr (.inr rfl))
        · rename_i n13 n10 hx
          have hx1 : ¬ (c.line = [] ∧ c.lines = 32) := fun e => hx (.inl e)
          have hx2 : ¬ c.line.length = 512 := fun e => hx (.inr e)
          refine ⟨by simp, by simp, by simp, by simp, by simp, by simp, by simp, by simp, by simp, by simp, by simp; omega, by simp; omega, hmx, fun _ => ?_, fun y hy => ?_⟩
          · by_cases he : c.line = []
            · have : ¬ c.lines = 32 := fun e => hx1 ⟨he, e⟩
              show c.lines < 32
              omega
            · exact h.more he
          · rcases List.mem_append.1 hy with hy | hy
            · exact h.clean y hy
            · rw [List.mem_singleton.1 hy]; exact ⟨n13, n10⟩
  rw [if_neg h5]
  by_cases h6 : c.st = 6
  · rw [if_pos h6]
    split
    · exact okC_bad h _ (.inl rfl)
    · split
      · constructor <;> simp <;> omega
      · split
        · exact okC_bad h _ (.inl rfl)
        · rename_i hne _
          have := h.more hne
          constructor <;> simp <;> omega
  rw [if_neg h6]
  exact h
theorem feed_ok (s : List UInt8) : ∀ {c : Ck}, OkC c → OkC (feedC c s).1 := by
  induction s with
  | nil => intro c h; exact h
  | cons b r ih =>
    intro c h
    unfold feedC
    split
    · exact h
    · exact ih (okC_step h b)
theorem feed_len (s : List UInt8) : ∀ c : Ck, (feedC c s).2 ≤ s.length := by
  induction s with
  | nil => intro c; exact Nat.le_refl _
  | cons b r ih =>
    intro c
    unfold feedC
    split
    · simp
    · have := ih (stepC c b); simp only [List.length_cons]; omega
theorem feed_over {c : Ck} (h : overC c = true) (s : List UInt8) : feedC c s = (c, 0) := by
  cases s with
  | nil => rfl
  | cons b r => unfold feedC; rw [if_pos h]
/-- feeding in parts is feeding at once -/
theorem feed_app (a b : List UInt8) : ∀ c : Ck, feedC c (a ++ b) = ((feedC (feedC c a).1 b).1, (feedC c a).2 + (feedC (feedC c a).1 b).2) := by
  induction a with
  | nil => intro c; simp [feedC]
  | cons x a ih =>
    intro c
    by_cases h : overC c = true
    · rw [feed_over h, feed_over h]
      simp [feed_over h]
    · show feedC c (x :: (a ++ b)) = _
      have e1 : feedC c (x :: (a ++ b)) = ((feedC (stepC c x) (a ++ b)).1, (feedC (stepC c x) (a ++ b)).2 + 1) := by rw [feedC, if_neg h]
      have e2 : feedC c (x :: a) = ((feedC (stepC c x) a).1, (feedC (stepC c x) a).2 + 1) := by rw [feedC, if_neg h]
      rw [e1, e2, ih]
      simp only [Prod.mk.injEq, true_and]
      omega
theorem step_body (c : Ck) (b : UInt8) : (stepC c b).body = c.body ∨ (stepC c b).body = c.body ++ [b] := by
  unfold stepC badC
  repeat' split
  all_goals first | exact .inl rfl | exact .inr rfl
/-- the body only grows -/
theorem feed_body (s : List UInt8) : ∀ c : Ck, ∃ t, (feedC c s).1.body = c.body ++ t := by
  induction s with
  | nil => intro c; exact ⟨[], by simp [feedC]⟩
  | cons b r ih =>
    intro c
    unfold feedC
    split
    · exact ⟨[], by simp⟩
    · obtain ⟨t, ht⟩ := ih (stepC c b)
      rcases step_body c b with e | e
      · exact ⟨t, by rw [← e]; exact ht⟩
      · exact ⟨b :: t, by simp only; rw [ht, e]; simp⟩
end Go.Proofs.YtkbihipgnlglbaaGreatDoor
