/-
  Request lines in plain words: read and written. No program in sight.
-/
import Derived.Test.YtencphfhpnljlaaGreatDoorWb1
namespace Go.Proofs.YtencphfhpnljlaaGreatDoor
open Go.RowKit

/-- what stands ahead of the first blank, and behind it -/
def cutS : List UInt8 → Option (List UInt8 × List UInt8)
  | [] => none
  | b :: l => if b = 32 then some ([], l) else (cutS l).map fun x => (b :: x.1, x.2)
/-- the parts of a request line, and how many -/
def partsS (s : List UInt8) : List UInt8 × List UInt8 × List UInt8 × Nat :=
  match cutS s with
  | none => (s, [], [], 1)
  | some (a, r) => match cutS r with
    | none => (a, r, [], 2)
    | some (b, c) => (a, b, c, 3)
/-- the status of a line that is too long; 0: it is not -/
def longS (s : List UInt8) : Nat :=
  if 16 < (partsS s).1.length then 400 else if 1024 < (partsS s).2.1.length then 414 else if 512 < (partsS s).2.2.1.length then 400 else 0
def charT (b : UInt8) : Bool := decide (33 ≤ b.toNat) && decide (b.toNat ≤ 126) && !(b == 35)
def tgtT (s : List UInt8) : Bool := decide (s.head? = some 47) && s.all charT
def verS : List UInt8 := [72, 84, 84, 80, 47, 49, 46, 49]
/-- a request line that is read: method and target; the status -/
def lineS (s : List UInt8) : (List UInt8 × List UInt8) × Nat :=
  if longS s ≠ 0 then (([], []), longS s)
  else if (partsS s).2.2.2 = 3 ∧ isTok (partsS s).1 = true ∧ tgtT (partsS s).2.1 = true ∧ (partsS s).2.2.1 = verS then (((partsS s).1, (partsS s).2.1), 0) else (([], []), 400)
/-- a request line that is written -/
def reqT (m t : List UInt8) : List UInt8 × Nat :=
  if 16 < m.length ∨ isTok m = false then ([], 11) else if 1024 < t.length then ([], 4) else if tgtT t = false then ([], 3) else (m ++ [32] ++ t ++ [32] ++ verS, 0)
end Go.Proofs.YtencphfhpnljlaaGreatDoor
