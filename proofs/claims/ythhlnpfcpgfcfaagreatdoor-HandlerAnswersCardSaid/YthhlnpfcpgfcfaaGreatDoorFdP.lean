/-
  Plain facts on fields: their line, their error, the first error of a list. Words on a list of fields in memory. No program in sight.
-/
import Derived.Test.YthhlnpfcpgfcfaaGreatDoorRd
namespace Go.Proofs.YthhlnpfcpgfcfaaGreatDoor
open Go.RowKit

abbrev Fld := List UInt8 × List UInt8
/-- the line of a field -/
def lineL (f : Fld) : List UInt8 := if f.2 = [] then f.1 ++ [58] else f.1 ++ [58, 32] ++ f.2
/-- the error of a field -/
def oneL (f : Fld) : Nat := if isTok f.1 = false then 11 else if isVal f.2 = false then 3 else if 512 < (lineL f).length then 4 else 0
/-- the first error of a list, from number k on -/
def firstE : Nat → List Fld → Nat × Nat
  | _, [] => (0, 0)
  | k, f :: l => if oneL f ≠ 0 then (oneL f, k) else firstE (k + 1) l
def checkL (l : List Fld) : Nat × Nat := if 32 < l.length then (5, 0) else firstE 0 l
theorem firstE_skip (k : Nat) (l : List Fld) (j : Nat) (h : ∀ f ∈ l.take j, oneL f = 0) (hj : j ≤ l.length) : firstE k l = firstE (k + j) (l.drop j) := by
  induction l generalizing k j with
  | nil => simp at hj; subst hj; rfl
  | cons f l ih =>
    cases j with
    | zero => rfl
    | succ j =>
      have hf : oneL f = 0 := h f (by simp)
      rw [firstE, if_neg (by simp [hf]), ih (k + 1) j (fun g hg => h g (by simp [hg])) (by simpa using hj), List.drop_succ_cons, show k + 1 + j = k + (j + 1) by omega]
theorem firstE_at (l : List Fld) (j : Nat) (hj : j < l.length) (h : ∀ f ∈ l.take j, oneL f = 0) (hn : oneL l[j] ≠ 0) : firstE 0 l = (oneL l[j], j) := by
  rw [firstE_skip 0 l j h (by omega), List.drop_eq_getElem_cons hj, firstE, if_pos hn, Nat.zero_add]
theorem firstE_none (l : List Fld) (h : ∀ f ∈ l, oneL f = 0) : firstE 0 l = (0, 0) := by
  rw [firstE_skip 0 l l.length (by rw [List.take_length]; exact h) (by omega), List.drop_length]; rfl
theorem firstE_zero {k : Nat} {l : List Fld} (h : (firstE k l).1 = 0) : ∀ f ∈ l, oneL f = 0 := by
  induction l generalizing k with
  | nil => simp
  | cons f l ih =>
    rw [firstE] at h
    split at h
    · rename_i hn; exact absurd h hn
    · rename_i hn
      intro g hg
      rcases List.mem_cons.1 hg with rfl | hg
      · simpa using hn
      · exact ih h g hg
theorem firstE_snd {k : Nat} {l : List Fld} (h : (firstE k l).1 = 0) : (firstE k l).2 = 0 := by
  induction l generalizing k with
  | nil => rfl
  | cons f l ih =>
    rw [firstE] at h ⊢
    split
    · rename_i hn; rw [if_pos hn] at h; exact absurd h hn
    · rename_i hn; rw [if_neg hn] at h; exact ih h
theorem lineL_len (f : Fld) : (lineL f).length ≤ f.1.length + f.2.length + 2 := by
  unfold lineL; split <;> simp <;> omega

/-- a field as a value, a list of fields as cells -/
def fldV (f : Fld) : Value := .agg #[.string (bs f.1), .string (bs f.2)]
def fldsC (l : List Fld) : List Value := l.flatMap fun f => [.string (bs f.1), .string (bs f.2)]
theorem fldsC_len (l : List Fld) : (fldsC l).length = l.length * 2 := by
  unfold fldsC
  induction l with
  | nil => rfl
  | cons f l ih => rw [List.flatMap_cons, List.length_append, ih]; simp; omega
theorem fldsC_app (l m : List Fld) : fldsC (l ++ m) = fldsC l ++ fldsC m := by simp [fldsC]
theorem fldsC_get (l : List Fld) (k : Nat) (h : k < l.length) : (fldsC l)[k * 2]? = some (.string (bs l[k].1)) ∧ (fldsC l)[k * 2 + 1]? = some (.string (bs l[k].2)) := by
  induction l generalizing k with
  | nil => simp at h
  | cons f l ih =>
    unfold fldsC at ih ⊢
    rw [List.flatMap_cons]
    cases k with
    | zero => exact ⟨rfl, rfl⟩
    | succ k =>
      have h' : k < l.length := by simpa using h
      have := ih k h'
      rw [List.getElem?_append_right (by simp; omega), List.getElem?_append_right (by simp; omega)]
      simpa [show (k + 1) * 2 - (0 + 1 + 1) = k * 2 by omega, show (k + 1) * 2 + 1 - (0 + 1 + 1) = k * 2 + 1 by omega] using this
theorem fldsC_one (l : List Fld) : ∀ u ∈ fldsC l, u.oneCell' = true := by
  intro u hu
  obtain ⟨f, _, hf⟩ := List.mem_flatMap.1 hu
  simp at hf
  rcases hf with rfl | rfl <;> rfl
theorem Reads.flen {w : World} {B n : Nat} {A : Option Addr} {l : List Fld} (h : Reads w B 2 A n (fldsC l)) : n = l.length := by
  have := h.1; rw [fldsC_len] at this; omega
/-- a field of a list of fields -/
theorem Reads.fld {w : World} {B n : Nat} {A : Option Addr} {l : List Fld} (h : Reads w B 2 A n (fldsC l)) (k : Nat) (hk : k < l.length) :
    ∃ b o, A = some ⟨b, o, none⟩ ∧ b < B ∧ w.cell? ⟨b, o + k * 2, none⟩ = some (.string (bs l[k].1)) ∧ w.cell? ⟨b, o + k * 2 + 1, none⟩ = some (.string (bs l[k].2)) := by
  have hn := h.flen
  obtain ⟨ad, e, hb, hc⟩ := h.2 (by omega)
  obtain ⟨b, o, s⟩ := ad
  have hs : s = none := by
    cases s with
    | none => rfl
    | some q =>
      have h0 := hc 0 _ (fldsC_get l 0 (by omega)).1
      simp only [Addr.add, if_true] at h0
      unfold World.cell? at h0
      simp only [Option.isSome_some, if_true] at h0
      split at h0 <;> simp at h0
  subst hs
  obtain ⟨g1, g2⟩ := fldsC_get l k hk
  have c1 := hc _ _ g1
  have c2 := hc _ _ g2
  rw [Addr.add_lit] at c1 c2
  exact ⟨b, o, e, hb, c1, by rw [Nat.add_assoc]; exact c2⟩
end Go.Proofs.YthhlnpfcpgfcfaaGreatDoor
