/-
  Requests made of numbers, in plain words: what is written of them is read back (all 1080 of them, by evaluation).
-/
import Derived.Test.YtencphfhpnljlaaGreatDoorWi0
namespace Go.Proofs.YtencphfhpnljlaaGreatDoor
open Go.RowKit

/-- a request made of a number -/
def methW : List (List UInt8) := [[71, 69, 84], [80, 79, 83, 84], [72, 69, 65, 68], [80, 85, 84]]
def tgtW : List (List UInt8) := [[47], [47, 97, 47, 98, 63, 113, 61, 49], [47, 37, 52, 49]]
def someB : List UInt8 := [115, 111, 109, 101, 32, 98, 121, 116, 101, 115, 13, 10, 13, 10]
def madeB (k : Nat) : List UInt8 := if k / 360 % 3 = 0 then [] else someB.take (k / 24 % 15)
def madeL (k : Nat) : List Fld :=
  [([72, 111, 115, 116], [104])] ++ (if k / 12 % 2 = 1 then [([88, 45, 65], [98, 44, 32, 99])] else []) ++ (if k / 360 % 3 = 0 then [] else if k / 360 % 3 = 1 then [([99, 111, 110, 116, 101, 110, 116, 45, 108, 101, 110, 103, 116, 104], Lib.decDigits (madeB k).length)] else [([84, 114, 97, 110, 115, 102, 101, 114, 45, 69, 110, 99, 111, 100, 105, 110, 103], [67, 104, 117, 110, 107, 101, 100])])
def madeM (k : Nat) : List UInt8 := methW.getD (k % 4) []
def madeT (k : Nat) : List UInt8 := tgtW.getD (k / 4 % 3) []
/-- the bytes of a body -/
def bytesW (k : Nat) : List UInt8 := if k / 360 % 3 = 2 then encodeT (madeB k) [] else madeB k
def textW (k : Nat) : List UInt8 := (reqT (madeM k) (madeT k)).1 ++ [13, 10] ++ textL (madeL k) ++ [13, 10] ++ bytesW k
def eventsW (k : Nat) : List EvP := [⟨1, madeM k, madeT k, [], [], 0⟩, ⟨2, madeM k, madeT k, madeL k, [], 0⟩, ⟨3, madeM k, madeT k, madeL k, madeB k, 0⟩]
def backOk (k : Nat) : Bool := (feedW newW (textW k)).1 == newW && (feedW newW (textW k)).2 == eventsW k
theorem back_all : ∀ k : Fin 1080, backOk k.val = true := by decide +kernel
/-- only the rest by 1080 matters -/
theorem made_mod (k : Nat) : madeM (k % 1080) = madeM k ∧ madeT (k % 1080) = madeT k ∧ madeL (k % 1080) = madeL k ∧ madeB (k % 1080) = madeB k ∧ bytesW (k % 1080) = bytesW k := by
  have h1 : k % 1080 % 4 = k % 4 := by omega
  have h2 : k % 1080 / 4 % 3 = k / 4 % 3 := by omega
  have h3 : k % 1080 / 12 % 2 = k / 12 % 2 := by omega
  have h4 : k % 1080 / 24 % 15 = k / 24 % 15 := by omega
  have h5 : k % 1080 / 360 % 3 = k / 360 % 3 := by omega
  have hB : madeB (k % 1080) = madeB k := by unfold madeB; rw [h4, h5]
  refine ⟨by unfold madeM; rw [h1], by unfold madeT; rw [h2], ?_, hB, ?_⟩
  · unfold madeL; rw [h3, h5, hB]
  · unfold bytesW; rw [h5, hB]
theorem text_mod (k : Nat) : textW (k % 1080) = textW k ∧ eventsW (k % 1080) = eventsW k := by
  obtain ⟨h1, h2, h3, h4, h5⟩ := made_mod k
  exact ⟨by unfold textW; rw [h1, h2, h3, h5], by unfold eventsW; rw [h1, h2, h3, h4]⟩
theorem back_one (k : Nat) : feedW newW (textW k) = (newW, eventsW k) := by
  have h := back_all ⟨k % 1080, Nat.mod_lt _ (by omega)⟩
  unfold backOk at h
  rw [(text_mod k).1, (text_mod k).2] at h
  simp only [Bool.and_eq_true, beq_iff_eq] at h
  exact Prod.ext h.1 h.2
/-- several requests, one behind the other -/
theorem back_many : ∀ ks : List Nat, feedW newW (ks.flatMap textW) = (newW, ks.flatMap eventsW)
  | [] => rfl
  | k :: ks => by
    rw [List.flatMap_cons, feedW_app, back_one]
    simp only
    rw [back_many ks, List.flatMap_cons]
end Go.Proofs.YtencphfhpnljlaaGreatDoor
