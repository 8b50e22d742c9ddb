/-
  Request lines in plain words: what the library's cut at blanks gives, and which byte is the first wrong one. No program in sight.
-/
import Derived.Test.YtencphfhpnljlaaGreatDoorWi00
import Derived.Lib.Strings
namespace Go.Proofs.YtencphfhpnljlaaGreatDoor
open Go.RowKit

theorem cutS_none : ∀ {l : List UInt8}, cutS l = none → Lib.indexByte l 32 = -1
  | [], _ => rfl
  | b :: l, h => by
    unfold cutS at h
    split at h
    · cases h
    · rename_i hb
      have hm : cutS l = none := by cases hc : cutS l with | none => rfl | some x => rw [hc] at h; cases h
      have ih := cutS_none hm
      have e : (b == 32) = false := beq_eq_false_iff_ne.2 hb
      unfold Lib.indexByte
      rw [e, ih]; rfl
theorem cutS_some : ∀ {l a r : List UInt8}, cutS l = some (a, r) → Lib.indexByte l 32 = (a.length : Nat) ∧ l = a ++ 32 :: r
  | [], _, _, h => by cases h
  | b :: l, a, r, h => by
    unfold cutS at h
    split at h
    · rename_i hb
      subst hb
      cases h
      exact ⟨rfl, rfl⟩
    · rename_i hb
      cases hc : cutS l with
      | none => rw [hc] at h; cases h
      | some x =>
        obtain ⟨a', r'⟩ := x
        rw [hc] at h
        cases h
        obtain ⟨i1, i2⟩ := cutS_some hc
        have e : (b == 32) = false := beq_eq_false_iff_ne.2 hb
        refine ⟨?_, by simp [i2]⟩
        unfold Lib.indexByte
        rw [e, i1]
        simp
theorem idxB32 (l : List UInt8) : Lib.indexB (bs l) ⟨#[32]⟩ = Lib.indexByte l 32 := by
  show Lib.index (bs l).data.toList [32] = _
  rw [bs_list, Lib.index_one]
theorem ext_l (l : List UInt8) (a b : Nat) : (bs l).extract a b = bs ((l.drop a).take (b - a)) := by
  apply ba_ext
  rw [ByteArray.data_extract, bs_list]
  simp [bs]
theorem splitS_none (k : Nat) {l : List UInt8} (h : cutS l = none) : Lib.splitB ⟨#[32]⟩ 0 k (bs l) = [bs l] :=
  Lib.splitB_miss _ _ _ _ (by rw [idxB32]; exact cutS_none h)
theorem splitS_some (k : Nat) {l a r : List UInt8} (h : cutS l = some (a, r)) : Lib.splitB ⟨#[32]⟩ 0 (k + 1) (bs l) = bs a :: Lib.splitB ⟨#[32]⟩ 0 k (bs r) := by
  obtain ⟨h1, h2⟩ := cutS_some h
  rw [Lib.splitB_hit _ _ _ _ a.length (by rw [idxB32]; exact h1)]
  have hl : l.length = a.length + 1 + r.length := by rw [h2]; simp; omega
  rw [show (bs l).size = l.length from bs_size l, Nat.add_zero, show ((⟨#[32]⟩ : ByteArray).size) = 1 from rfl, ext_l l 0 a.length, ext_l l (a.length + 1) l.length]
  have e1 : (l.drop 0).take (a.length - 0) = a := by rw [h2]; simp
  have e2 : (l.drop (a.length + 1)).take (l.length - (a.length + 1)) = r := by
    rw [List.take_of_length_le (by rw [List.length_drop]; omega), h2, ← List.drop_drop, List.drop_left]; rfl
  rw [e1, e2]
/-- the parts that stand between blanks, three at most -/
def piecesS (s : List UInt8) : List (List UInt8) :=
  match cutS s with
  | none => [s]
  | some (a, r) => match cutS r with
    | none => [a, r]
    | some (b, c) => [a, b, c]
theorem split_pieces (s : List UInt8) : Lib.splitB ⟨#[32]⟩ 0 (min 3 ((bs s).size + 1) - 1) (bs s) = (piecesS s).map bs := by
  rw [bs_size]
  unfold piecesS
  cases hc : cutS s with
  | none => rw [splitS_none _ hc]; rfl
  | some x =>
    obtain ⟨a, r⟩ := x
    have hl := (cutS_some hc).2
    have hlen : s.length = a.length + 1 + r.length := by rw [hl]; simp; omega
    by_cases h1 : s.length = 1
    · have hr : r = [] := List.eq_nil_of_length_eq_zero (by omega)
      subst hr
      rw [h1, show min 3 (1 + 1) - 1 = 0 + 1 from rfl, splitS_some 0 hc]
      rfl
    · rw [show min 3 (s.length + 1) - 1 = 1 + 1 by omega, splitS_some 1 hc]
      simp only
      cases hd : cutS r with
      | none => rw [splitS_none _ hd]; rfl
      | some y =>
        obtain ⟨b, c⟩ := y
        rw [splitS_some 0 hd]; rfl
theorem pieces_cap (s : List UInt8) : (piecesS s).length ≤ min 3 (s.length + 1) ∧ 1 ≤ (piecesS s).length := by
  unfold piecesS
  cases hc : cutS s with
  | none => simp; omega
  | some x =>
    obtain ⟨a, r⟩ := x
    have hl := (cutS_some hc).2
    have hlen : s.length = a.length + 1 + r.length := by rw [hl]; simp; omega
    simp only
    cases hd : cutS r with
    | none => simp; omega
    | some y =>
      obtain ⟨b, c⟩ := y
      have hl2 := (cutS_some hd).2
      have : r.length = b.length + 1 + c.length := by rw [hl2]; simp; omega
      simp; omega
theorem parts_pieces (s : List UInt8) : ∃ rest, piecesS s ++ [[], []] = [(partsS s).1, (partsS s).2.1, (partsS s).2.2.1] ++ rest ∧ (partsS s).2.2.2 = (piecesS s).length := by
  unfold piecesS partsS
  cases hc : cutS s with
  | none => exact ⟨[], rfl, rfl⟩
  | some x =>
    obtain ⟨a, r⟩ := x
    simp only
    cases hd : cutS r with
    | none => exact ⟨[[]], rfl, rfl⟩
    | some y => exact ⟨[[], []], rfl, rfl⟩
theorem parts_len (s : List UInt8) : (partsS s).1.length ≤ s.length ∧ (partsS s).2.1.length ≤ s.length ∧ (partsS s).2.2.1.length ≤ s.length ∧ 1 ≤ (partsS s).2.2.2 ∧ (partsS s).2.2.2 ≤ 3 := by
  unfold partsS
  cases hc : cutS s with
  | none => simp
  | some x =>
    obtain ⟨a, r⟩ := x
    have hl := (cutS_some hc).2
    have hlen : s.length = a.length + 1 + r.length := by rw [hl]; simp; omega
    simp only
    cases hd : cutS r with
    | none => simp; omega
    | some y =>
      obtain ⟨b, c⟩ := y
      have hl2 := (cutS_some hd).2
      have : r.length = b.length + 1 + c.length := by rw [hl2]; simp; omega
      simp; omega

/-- the offset of the first byte that is wrong in a method, in a version; or the length -/
def methN (m : List UInt8) : Nat := (m.takeWhile fun b => tokP b.toNat).length
def verN : List UInt8 → List UInt8 → Nat
  | b :: v, c :: r => if b = c then verN v r + 1 else 0
  | _, _ => 0
theorem takeWhile_len (p : UInt8 → Bool) : ∀ l : List UInt8, (l.takeWhile p).length ≤ l.length ∧ ((l.takeWhile p).length = l.length ↔ l.all p = true)
  | [] => by simp
  | b :: l => by
    obtain ⟨h1, h2⟩ := takeWhile_len p l
    rw [List.takeWhile_cons]
    cases hp : p b with
    | true => simp only [if_true, List.length_cons, List.all_cons, hp, Bool.true_and]; exact ⟨by omega, by rw [← h2]; omega⟩
    | false => simp [hp]
theorem verN_le : ∀ v r : List UInt8, verN v r ≤ v.length
  | [], _ => by simp [verN]
  | b :: v, [] => by simp [verN]
  | b :: v, c :: r => by
    have := verN_le v r
    unfold verN
    split <;> simp <;> omega
theorem verN_self : ∀ v : List UInt8, verN v v = v.length
  | [] => rfl
  | b :: v => by rw [verN, if_pos rfl, verN_self v]; rfl
end Go.Proofs.YtencphfhpnljlaaGreatDoor
