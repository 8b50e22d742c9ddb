/-
  Requests made of numbers whose fields' names and blanks are changed: what is meant.
-/
import Derived.Test.YtencphfhpnljlaaGreatDoorWi1
namespace Go.Proofs.YtencphfhpnljlaaGreatDoor
open Go.RowKit

/-- a name in capitals -/
def upB (b : UInt8) : UInt8 := if 97 ≤ b.toNat ∧ b.toNat ≤ 122 then UInt8.ofNat (b.toNat - 32) else b
def pad1 (j : Nat) : List UInt8 := if j = 0 then [] else if j = 1 then [32] else [9, 32, 32]
def pad2 (j : Nat) : List UInt8 := if j = 0 then [] else if j = 1 then [32, 9] else [32]
def caseL (up : Bool) (j : Nat) (f : Fld) : List UInt8 := (if up then f.1.map upB else f.1) ++ [58] ++ pad1 j ++ f.2 ++ pad2 j ++ [13, 10]
def caseT (up : Bool) (j : Nat) (k : Nat) : List UInt8 := (reqT (madeM k) (madeT k)).1 ++ [13, 10] ++ (madeL k).flatMap (caseL up j) ++ [13, 10] ++ bytesW k
/-- the events of a request whose names' case and blanks are changed -/
def caseE (up : Bool) (k : Nat) : List EvP :=
  let l := (madeL k).map fun f => (if up then f.1.map upB else f.1, f.2)
  [⟨1, madeM k, madeT k, [], [], 0⟩, ⟨2, madeM k, madeT k, l, [], 0⟩, ⟨3, madeM k, madeT k, l, madeB k, 0⟩]
def caseOk (up : Bool) (j k : Nat) : Bool := (feedW newW (caseT up j k)).2 == caseE up k
end Go.Proofs.YtencphfhpnljlaaGreatDoor
