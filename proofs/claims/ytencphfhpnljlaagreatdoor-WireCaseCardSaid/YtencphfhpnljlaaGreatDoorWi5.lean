/-
  What wire.Text writes, in plain words. No program in sight.
-/
import Derived.Test.YtencphfhpnljlaaGreatDoorWi0
namespace Go.Proofs.YtencphfhpnljlaaGreatDoor
open Go.RowKit

def textP (m t : List UInt8) (l : List Fld) (body : List UInt8) : List UInt8 × Nat :=
  if (reqT m t).2 ≠ 0 then ([], (reqT m t).2)
  else if askL l [] ≠ 0 then ([], askL l [])
  else if (ofT l).2.2 ≠ 0 then ([], 3)
  else if (bytesT ((ofT l).1 : Nat) ((ofT l).2.1 : Nat) body).2 ≠ 0 then ([], 3)
  else ((reqT m t).1 ++ [13, 10] ++ textL l ++ [13, 10] ++ (bytesT ((ofT l).1 : Nat) ((ofT l).2.1 : Nat) body).1, 0)
end Go.Proofs.YtencphfhpnljlaaGreatDoor
