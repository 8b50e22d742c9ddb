/-
  The contracts of package token on the case of letters: Lower, Same.
-/
import Derived.Test.YtkbihipgnlglbaaGreatDoorTk2
namespace Go.Proofs.YtkbihipgnlglbaaGreatDoor
open Go.RowKit

def lowB (b : UInt8) : UInt8 := if 65 ≤ b.toNat ∧ b.toNat ≤ 90 then b + 32 else b
def lowL (l : List UInt8) : List UInt8 := l.map lowB
def low (s : ByteArray) : ByteArray := ⟨(lowL s.data.toList).toArray⟩
theorem lowB_up {b : UInt8} (h : 65 ≤ b.toNat ∧ b.toNat ≤ 90) : (lowB b).toNat = b.toNat + 32 := by
  rw [lowB, if_pos h, UInt8.toNat_add]
  show (b.toNat + 32) % 256 = _
  omega
theorem lowB_no {b : UInt8} (h : ¬ (65 ≤ b.toNat ∧ b.toNat ≤ 90)) : lowB b = b := if_neg h
theorem low_list (s : ByteArray) : (low s).data.toList = lowL s.data.toList := rfl
theorem low_size (s : ByteArray) : (low s).size = s.size := by rw [← size_l, low_list, lowL, List.length_map, size_l]

/-- the bytes while they are made small: the first k are done -/
def LowK (w : World) (g : Nat) (s : ByteArray) (k : Nat) : Prop := ∀ j (_ : j < s.size), w.cell? ⟨g, j, none⟩ = some (.int .u8 ((if j < k then lowB s[j] else s[j]).toNat : Int))
theorem LowK.step {w : World} {g : Nat} {s : ByteArray} {k : Nat} (h : LowK w g s k) (hk : k < s.size) (v : Int) (hv : v = (lowB s[k]).toNat) : LowK (w.setCell ⟨g, k, none⟩ (.int .u8 v)) g s (k + 1) := by
  intro j hj
  by_cases e : j = k
  · subst e
    rw [World.cell?_setCell_same _ _ _ (h j hj), if_pos (by omega), hv]
  · rw [World.cell?_setCell_other _ _ _ _ (by intro hc; injection hc with _ hc; exact e hc.symm), h j hj]
    by_cases hjk : j < k
    · rw [if_pos hjk, if_pos (by omega)]
    · rw [if_neg hjk, if_neg (by omega)]
theorem LowK.skip {w : World} {g : Nat} {s : ByteArray} {k : Nat} (h : LowK w g s k) (hk : k < s.size) (hv : lowB s[k] = s[k]) : LowK w g s (k + 1) := by
  intro j hj
  rw [h j hj]
  by_cases e : j = k
  · subst e; rw [if_neg (by omega), if_pos (by omega), hv]
  · by_cases hjk : j < k
    · rw [if_pos hjk, if_pos (by omega)]
    · rw [if_neg hjk, if_neg (by omega)]

end Go.Proofs.YtkbihipgnlglbaaGreatDoor
