/-
  Responses in plain words: codes with their reasons, the fields that may be sent, the bytes of a response. No program in sight.
-/
import Derived.Test.YthhlnpfcpgfcfaaGreatDoorTk5
import Derived.Lib.Index
import Derived.Lib.Itoa
namespace Go.Proofs.YthhlnpfcpgfcfaaGreatDoor
open Go.RowKit

/-- all codes, with their reasons -/
def codesR : List (Nat × List UInt8) :=
  [(200, [79, 75]),
   (301, [77, 111, 118, 101, 100, 32, 80, 101, 114, 109, 97, 110, 101, 110, 116, 108, 121]),
   (302, [70, 111, 117, 110, 100]),
   (303, [83, 101, 101, 32, 79, 116, 104, 101, 114]),
   (307, [84, 101, 109, 112, 111, 114, 97, 114, 121, 32, 82, 101, 100, 105, 114, 101, 99, 116]),
   (308, [80, 101, 114, 109, 97, 110, 101, 110, 116, 32, 82, 101, 100, 105, 114, 101, 99, 116]),
   (400, [66, 97, 100, 32, 82, 101, 113, 117, 101, 115, 116]),
   (403, [70, 111, 114, 98, 105, 100, 100, 101, 110]),
   (404, [78, 111, 116, 32, 70, 111, 117, 110, 100]),
   (405, [77, 101, 116, 104, 111, 100, 32, 78, 111, 116, 32, 65, 108, 108, 111, 119, 101, 100]),
   (410, [71, 111, 110, 101]),
   (413, [67, 111, 110, 116, 101, 110, 116, 32, 84, 111, 111, 32, 76, 97, 114, 103, 101]),
   (414, [85, 82, 73, 32, 84, 111, 111, 32, 76, 111, 110, 103]),
   (431, [82, 101, 113, 117, 101, 115, 116, 32, 72, 101, 97, 100, 101, 114, 32, 70, 105, 101, 108, 100, 115, 32, 84, 111, 111, 32, 76, 97, 114, 103, 101]),
   (500, [73, 110, 116, 101, 114, 110, 97, 108, 32, 83, 101, 114, 118, 101, 114, 32, 69, 114, 114, 111, 114])]
def reasonR (c : Int) : Option (List UInt8) := (codesR.find? fun x => (x.1 : Int) == c).map (·.2)
/-- a response -/
structure Rsp where
  code : Int
  flds : List (List UInt8 × List UInt8)
  body : List UInt8
  close : Bool
  head : Bool
/-- names that the server writes itself -/
def ownR (n : List UInt8) : Bool := lowL n == [99, 111, 110, 116, 101, 110, 116, 45, 108, 101, 110, 103, 116, 104] || lowL n == [116, 114, 97, 110, 115, 102, 101, 114, 45, 101, 110, 99, 111, 100, 105, 110, 103] || lowL n == [99, 111, 110, 110, 101, 99, 116, 105, 111, 110]
/-- the error of a field that may not be sent; 0: it may -/
def mayR (f : List UInt8 × List UInt8) : Nat :=
  if isTok f.1 = false ∨ 40 < f.1.length ∨ ownR f.1 = true then 11
  else if 1024 < f.2.length then 4
  else if f.2.head? = some 32 ∨ f.2.getLast? = some 32 ∨ (f.2.any fun b => decide (b.toNat < 32) || decide (126 < b.toNat)) = true then 3
  else 0
def mayAllR : List (List UInt8 × List UInt8) → Nat
  | [] => 0
  | f :: l => if mayR f = 0 then mayAllR l else mayR f
def checkR (r : Rsp) : Nat :=
  if reasonR r.code = none then 10 else if 32 < r.flds.length then 5 else if mayAllR r.flds ≠ 0 then mayAllR r.flds else if 4096 < r.body.length then 4 else 0
def fldR (f : List UInt8 × List UInt8) : List UInt8 := f.1 ++ [58, 32] ++ f.2 ++ [13, 10]
def firstR (c : Int) : List UInt8 := [72, 84, 84, 80, 47, 49, 46, 49, 32] ++ Lib.decDigits c.toNat ++ [32] ++ (reasonR c).getD []
def lenR (n : Nat) : List UInt8 := [67, 111, 110, 116, 101, 110, 116, 45, 76, 101, 110, 103, 116, 104, 58, 32] ++ Lib.decDigits n
def closeR : List UInt8 := [67, 111, 110, 110, 101, 99, 116, 105, 111, 110, 58, 32, 99, 108, 111, 115, 101]
/-- the bytes of a response without its body -/
def headR (r : Rsp) : List UInt8 := firstR r.code ++ [13, 10] ++ r.flds.flatMap fldR ++ lenR r.body.length ++ [13, 10] ++ (if r.close then closeR ++ [13, 10] else []) ++ [13, 10]
def textR (r : Rsp) : List UInt8 := headR r ++ (if r.head then [] else r.body)
/-- a line without CR ends where CR and LF stand first -/
theorem index_crlf (l r : List UInt8) (h : ∀ b ∈ l, b ≠ 13) : Lib.index (l ++ 13 :: 10 :: r) [13, 10] = l.length := by
  induction l with
  | nil => simp [Lib.index]
  | cons b l ih =>
    have hb : b ≠ 13 := h b (by simp)
    have hb' : ((13 : UInt8) == b) = false := by rw [beq_eq_false_iff_ne]; exact fun e => hb e.symm
    have := ih fun x hx => h x (by simp [hx])
    rw [List.cons_append, Lib.index, this]
    have hne : ((l.length : Int) == -1) = false := by rw [beq_eq_false_iff_ne]; omega
    simp [List.isPrefixOf, hb', hne]
theorem index_colon (l r : List UInt8) (h : ∀ b ∈ l, b ≠ 58) : Lib.index (l ++ 58 :: 32 :: r) [58, 32] = l.length := by
  induction l with
  | nil => simp [Lib.index]
  | cons b l ih =>
    have hb : b ≠ 58 := h b (by simp)
    have hb' : ((58 : UInt8) == b) = false := by rw [beq_eq_false_iff_ne]; exact fun e => hb e.symm
    have := ih fun x hx => h x (by simp [hx])
    rw [List.cons_append, Lib.index, this]
    have hne : ((l.length : Int) == -1) = false := by rw [beq_eq_false_iff_ne]; omega
    simp [List.isPrefixOf, hb', hne]
/-- the line that begins here, and what stands behind its end -/
def lineP (s : List UInt8) : Option (List UInt8 × List UInt8) :=
  if Lib.index s [13, 10] < 0 then none else some (s.take (Lib.index s [13, 10]).toNat, s.drop ((Lib.index s [13, 10]).toNat + 2))
theorem lineP_line (l r : List UInt8) (h : ∀ b ∈ l, b ≠ 13) : lineP (l ++ 13 :: 10 :: r) = some (l, r) := by
  unfold lineP
  rw [index_crlf l r h, if_neg (by omega), Int.toNat_natCast]
  rw [List.take_left, show l.length + 2 = (l ++ [13, 10]).length by simp, show l ++ 13 :: 10 :: r = (l ++ [13, 10]) ++ r by simp, List.drop_left]
/-- the field of a line; none: there is no colon with a space -/
def cutP (l : List UInt8) : Option (List UInt8 × List UInt8) :=
  if Lib.index l [58, 32] < 0 then none else some (l.take (Lib.index l [58, 32]).toNat, l.drop ((Lib.index l [58, 32]).toNat + 2))
theorem cutP_line (n v : List UInt8) (h : ∀ b ∈ n, b ≠ 58) : cutP (n ++ 58 :: 32 :: v) = some (n, v) := by
  unfold cutP
  rw [index_colon n v h, if_neg (by omega), Int.toNat_natCast]
  rw [List.take_left, show n.length + 2 = (n ++ [58, 32]).length by simp, show n ++ 58 :: 32 :: v = (n ++ [58, 32]) ++ v by simp, List.drop_left]
/-- the fields that stand here, n at most, and what stands behind them -/
def fldsP : Nat → List UInt8 → List (List UInt8 × List UInt8) × List UInt8
  | 0, s => ([], s)
  | n + 1, s =>
    match lineP s with
    | none => ([], s)
    | some (l, r) =>
      match cutP l with
      | none => ([], s)
      | some f => if mayR f = 0 then (f :: (fldsP n r).1, (fldsP n r).2) else ([], s)
/-- no field begins here -/
def NoFld (s : List UInt8) : Prop := ∀ l r f, lineP s = some (l, r) → cutP l = some f → mayR f ≠ 0
theorem fldsP_text (fs : List (List UInt8 × List UInt8)) (s : List UInt8) (hs : NoFld s) (hf : ∀ f ∈ fs, mayR f = 0 ∧ (∀ b ∈ f.1, b ≠ 58 ∧ b ≠ 13) ∧ (∀ b ∈ f.2, b ≠ 13)) :
    ∀ n, fs.length ≤ n → fldsP n (fs.flatMap fldR ++ s) = (fs, s) := by
  induction fs with
  | nil =>
    intro n _
    cases n with
    | zero => rfl
    | succ n =>
      simp only [List.flatMap_nil, List.nil_append]
      unfold fldsP
      cases hl : lineP s with
      | none => rfl
      | some x =>
        obtain ⟨l, r⟩ := x
        simp only
        cases hc : cutP l with
        | none => rfl
        | some f => simp only; rw [if_neg (hs l r f hl hc)]
  | cons f fs ih =>
    intro n hn
    cases n with
    | zero => simp at hn
    | succ n =>
      obtain ⟨h1, h2, h3⟩ := hf f (by simp)
      have e : (f :: fs).flatMap fldR ++ s = (f.1 ++ 58 :: 32 :: f.2) ++ 13 :: 10 :: (fs.flatMap fldR ++ s) := by simp [fldR]
      have hl : lineP ((f :: fs).flatMap fldR ++ s) = some (f.1 ++ 58 :: 32 :: f.2, fs.flatMap fldR ++ s) := by
        rw [e]
        refine lineP_line _ _ fun b hb => ?_
        rcases List.mem_append.1 hb with hb | hb
        · exact (h2 b hb).2
        · simp only [List.mem_cons] at hb
          rcases hb with rfl | rfl | hb
          · decide
          · decide
          · exact h3 b hb
      unfold fldsP
      rw [hl]
      simp only
      rw [cutP_line f.1 f.2 (fun b hb => (h2 b hb).1)]
      simp only
      rw [if_pos h1, ih (fun g hg => hf g (by simp [hg])) n (by simpa using hn)]
/-- the number of some digits -/
def numV (l : List UInt8) : Nat := l.foldl (fun a b => 10 * a + (b.toNat - 48)) 0
theorem numV_dec (n : Nat) : numV (Lib.decDigits n) = n := by
  induction n using Nat.strongRecOn with
  | ind n ih =>
    by_cases h : n < 10
    · rw [Lib.decDigits, dif_pos h]
      simp only [numV, List.foldl, UInt8.toNat_ofNat']
      omega
    · rw [Lib.decDigits, dif_neg h]
      have := ih (n / 10) (by omega)
      unfold numV at this ⊢
      rw [List.foldl_append, this]
      simp only [List.foldl, UInt8.toNat_ofNat']
      omega
theorem dec_inj {a b : Nat} (h : Lib.decDigits a = Lib.decDigits b) : a = b := by rw [← numV_dec a, h, numV_dec]
theorem lenR_inj {a b : Nat} (h : lenR a = lenR b) : a = b := dec_inj (List.append_cancel_left h)
/-- the length that a line tells -/
def lenP (l : List UInt8) : Option Nat := (List.range 4097).find? fun n => l == lenR n
theorem lenP_len (n : Nat) (h : n ≤ 4096) : lenP (lenR n) = some n := by
  unfold lenP
  rw [List.find?_eq_some_iff_append]
  refine ⟨by simp, List.range n, (List.range' (n + 1) (4096 - n)), ?_, fun a ha => ?_⟩
  · have e : List.range 4097 = List.range' 0 4097 := List.range_eq_range'
    rw [e, List.range_eq_range', show (4097 : Nat) = n + (1 + (4096 - n)) by omega, List.range'_append_1.symm, List.range'_append_1.symm]
    simp
  · have := List.mem_range.1 ha
    simp only [Bool.not_eq_true', beq_eq_false_iff_ne]
    intro e
    have := lenR_inj e
    omega
/-- the code of a first line -/
def codeP (l : List UInt8) : Option Int := (codesR.find? fun x => l == firstR (x.1 : Int)).map fun x => (x.1 : Int)
end Go.Proofs.YthhlnpfcpgfcfaaGreatDoor
