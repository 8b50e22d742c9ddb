/-
  The wire in plain words: a request's line, the parser's steps and events, what is written. No program in sight.
-/
import Derived.Test.YtencphfhpnljlaaGreatDoorWd
import Derived.Test.YtencphfhpnljlaaGreatDoorWe1
import Derived.Test.YtencphfhpnljlaaGreatDoorWf
import Derived.Test.YtencphfhpnljlaaGreatDoorWf2
import Derived.Test.YtencphfhpnljlaaGreatDoorWi00
namespace Go.Proofs.YtencphfhpnljlaaGreatDoor
open Go.RowKit

/-- a parser; over: its head is over -/
structure WireP where
  at_ : Nat
  text : List UInt8
  meth : List UInt8
  tgt : List UInt8
  flds : List Fld
  left : Nat
  body : List UInt8
  chunks : Ck
  over : Bool
deriving DecidableEq
structure EvP where
  kind : Nat
  meth : List UInt8
  tgt : List UInt8
  flds : List Fld
  body : List UInt8
  status : Nat
deriving DecidableEq
def zeroC : Ck := ⟨0, 0, 0, 0, [], [], 0, 0⟩
def newW : WireP := ⟨1, [], [], [], [], 0, [], zeroC, false⟩
def endW : WireP := ⟨5, [], [], [], [], 0, [], zeroC, false⟩
def bareS (s : List UInt8) : List UInt8 := if s.getLast? = some 13 then s.dropLast else s
def failW (p : WireP) (s : Nat) : WireP × List EvP := (endW, [⟨4, p.meth, p.tgt, if p.over then p.flds else [], [], s⟩])
def doneW (p : WireP) (b : List UInt8) : WireP × List EvP := (newW, [⟨3, p.meth, p.tgt, p.flds, b, 0⟩])
/-- what the end of a head does -/
def headW (p : WireP) : WireP × List EvP :=
  let q := { p with text := [], over := true }
  let e : EvP := ⟨2, p.meth, p.tgt, p.flds, [], 0⟩
  match ofT p.flds with
  | (k, n, s) =>
    if s ≠ 0 then ((failW q s).1, e :: (failW q s).2)
    else if k = 3 then ({ q with at_ := 4, chunks := newC }, [e])
    else if 0 < n then ({ q with at_ := 3, left := n }, [e])
    else ((doneW q []).1, e :: (doneW q []).2)
def stepW (p : WireP) (b : UInt8) : WireP × List EvP :=
  if p.at_ = 1 then
    if b ≠ 10 then (if longS (bareS (p.text ++ [b])) ≠ 0 then failW { p with text := p.text ++ [b] } (longS (bareS (p.text ++ [b]))) else ({ p with text := p.text ++ [b] }, []))
    else if p.text.getLast? ≠ some 13 then failW p 400
    else if (lineS p.text.dropLast).2 ≠ 0 then failW p (lineS p.text.dropLast).2
    else ({ p with meth := (lineS p.text.dropLast).1.1, tgt := (lineS p.text.dropLast).1.2, text := [], at_ := 2 }, [⟨1, (lineS p.text.dropLast).1.1, (lineS p.text.dropLast).1.2, [], [], 0⟩])
  else if p.at_ = 2 then
    if b ≠ 10 then
      (if p.flds.length = 32 ∧ (p.text ≠ [] ∨ b ≠ 13) then failW p 431
       else if 512 < (bareS (p.text ++ [b])).length then failW { p with text := p.text ++ [b] } 431 else ({ p with text := p.text ++ [b] }, []))
    else if p.text.getLast? ≠ some 13 then failW p 400
    else if p.text.dropLast = [] then headW p
    else if (readL p.text.dropLast).2 = 0 then ({ p with flds := p.flds ++ [(readL p.text.dropLast).1], text := [] }, [])
    else if (readL p.text.dropLast).2 = 4 then failW p 431 else failW p 400
  else if p.at_ = 3 then
    if p.left = 1 then doneW { p with body := p.body ++ [b], left := 0 } (p.body ++ [b]) else ({ p with body := p.body ++ [b], left := p.left - 1 }, [])
  else if p.at_ = 4 then
    let c := stepC p.chunks b
    if c.st = 8 then failW { p with chunks := c, over := true } c.status else if c.st = 7 then doneW { p with chunks := c } c.body else ({ p with chunks := c }, [])
  else (p, [])
def feedW : WireP → List UInt8 → WireP × List EvP
  | p, [] => (p, [])
  | p, b :: r => ((feedW (stepW p b).1 r).1, (stepW p b).2 ++ (feedW (stepW p b).1 r).2)
theorem feedW_app : ∀ (p : WireP) (a b : List UInt8), feedW p (a ++ b) = ((feedW (feedW p a).1 b).1, (feedW p a).2 ++ (feedW (feedW p a).1 b).2)
  | _, [], _ => by simp [feedW]
  | p, x :: a, b => by
    rw [List.cons_append, feedW, feedW_app (stepW p x).1 a b, feedW]
    simp [List.append_assoc]
/-- the kinds of the events, the last one's status and body -/
def tellsW (s : List UInt8) (status : Nat) (body : List UInt8) (kinds : List Nat) : Bool :=
  let l := (feedW newW s).2
  (l.map (·.kind)) == kinds && !l.isEmpty && (match l.getLast? with | some e => e.status == status && e.body == body | none => false)
end Go.Proofs.YtencphfhpnljlaaGreatDoor
