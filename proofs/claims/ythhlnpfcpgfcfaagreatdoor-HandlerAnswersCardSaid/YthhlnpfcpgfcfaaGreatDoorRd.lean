/-
  Words on lists of texts in memory: the address written out, an element read. Lemmas of no program.
-/
import Derived.Test.YthhlnpfcpgfcfaaGreatDoorLst
import Derived.Lib.Join
namespace Go.Proofs.YthhlnpfcpgfcfaaGreatDoor
open Go.RowKit

theorem Reads.lit {w : World} {B n : Nat} {A : Option Addr} {xs : List Value} (h : Reads w B 1 A n xs) (hn : 0 < n) : ∃ b o, A = some ⟨b, o, none⟩ ∧ b < B ∧ ∀ j u, xs[j]? = some u → w.cell? ⟨b, o + j, none⟩ = some u := by
  obtain ⟨ad, e, hb, hc⟩ := h.2 hn
  obtain ⟨b, o, s⟩ := ad
  have hl : 0 < xs.length := by have := h.1; omega
  have h0 := hc 0 _ (List.getElem?_eq_getElem hl)
  have hs : s = none := by
    cases s with
    | none => rfl
    | some k =>
      simp only [Addr.add, if_true] at h0
      unfold World.cell? at h0
      simp only [Option.isSome_some, if_true] at h0
      split at h0 <;> simp at h0
  subst hs
  refine ⟨b, o, e, hb, fun j u hu => ?_⟩
  have := hc j u hu
  rwa [Addr.add_lit] at this
/-- an element of a list of texts -/
theorem Reads.text {w : World} {B n : Nat} {A : Option Addr} {xs : List (List UInt8)} (h : Reads w B 1 A n (strs xs)) (k : Nat) (hk : k < xs.length) : ∃ b o, A = some ⟨b, o, none⟩ ∧ b < B ∧ w.cell? ⟨b, o + k, none⟩ = some (.string (bs xs[k])) := by
  have hl := h.1
  rw [strs_len] at hl
  obtain ⟨b, o, e, hb, hc⟩ := h.lit (by omega)
  exact ⟨b, o, e, hb, hc k _ (strs_at xs k hk)⟩
theorem Reads.len {w : World} {B n : Nat} {A : Option Addr} {xs : List (List UInt8)} (h : Reads w B 1 A n (strs xs)) : n = xs.length := by
  have := h.1; rw [strs_len] at this; omega

def sep2 : List UInt8 := [44, 32]
def joinL (xs : List (List UInt8)) : List UInt8 := Lib.join xs sep2
theorem joinL_nil : joinL [] = [] := rfl
theorem joinL_succ (xs : List (List UInt8)) (k : Nat) (h : k < xs.length) : joinL (xs.take (k + 1)) = if k = 0 then xs[k] else joinL (xs.take k) ++ sep2 ++ xs[k] := by
  cases xs with
  | nil => simp at h
  | cons x r =>
    cases k with
    | zero => simp [joinL, Lib.join_one]
    | succ k =>
      have hk : k < r.length := by simpa using h
      rw [if_neg (by omega), List.take_succ_cons, List.take_succ_cons]
      unfold joinL
      rw [Lib.join_cons, Lib.join_cons, Lib.joinTail_take_succ sep2 r k r[k] (List.getElem?_eq_getElem hk)]
      simp
theorem joinL_take_le (xs : List (List UInt8)) (k : Nat) : (joinL (xs.take k)).length ≤ (joinL xs).length := by
  cases xs with
  | nil => simp [joinL]
  | cons x r =>
    cases k with
    | zero => simp [joinL, Lib.join_nil]
    | succ k =>
      rw [List.take_succ_cons]
      unfold joinL
      rw [Lib.join_cons, Lib.join_cons, List.length_append, List.length_append]
      have := Lib.joinTail_take_le sep2 r k
      omega
/-- a list written, or the error -/
def joinT (xs : List (List UInt8)) : List UInt8 × Nat := if xs.all isTok then (joinL xs, 0) else ([], 3)
/-- has a list a token, or the error -/
def holdsT (l t : List UInt8) : Bool × Nat := if (listT l).2 ≠ 0 then (false, (listT l).2) else if isTok t = false then (false, 3) else ((listT l).1.contains (lowL t), 0)
end Go.Proofs.YthhlnpfcpgfcfaaGreatDoor
