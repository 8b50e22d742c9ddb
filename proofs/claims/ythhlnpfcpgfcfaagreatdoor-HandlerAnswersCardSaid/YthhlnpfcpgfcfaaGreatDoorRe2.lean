/-
  Responses in plain words: where a reading fails; what the program's own steps ask. No program in sight.
-/
import Derived.Test.YthhlnpfcpgfcfaaGreatDoorRe1
import Derived.Lib.TrimAscii
import Derived.Lib.IndexMore
namespace Go.Proofs.YthhlnpfcpgfcfaaGreatDoor
open Go.RowKit

/-- an index that is not -1 is a place where the pattern stands -/
theorem index_hit : ∀ (s sub : List UInt8), Lib.index s sub = -1 ∨ ∃ a r, s = a ++ sub ++ r ∧ Lib.index s sub = (a.length : Int)
  | [], sub => by
    cases sub with
    | nil => exact .inr ⟨[], [], by simp, by simp [Lib.index]⟩
    | cons b t => exact .inl (by simp [Lib.index])
  | b :: l, sub => by
    cases hp : sub.isPrefixOf (b :: l) with
    | true =>
      obtain ⟨r, hr⟩ := List.isPrefixOf_iff_prefix.1 hp
      exact .inr ⟨[], r, by simp [hr], by rw [Lib.index, hp]; simp⟩
    | false =>
      rcases index_hit l sub with h | ⟨a, r, h1, h2⟩
      · exact .inl (by rw [Lib.index, hp, h]; simp)
      · refine .inr ⟨b :: a, r, by rw [h1]; simp, ?_⟩
        rw [Lib.index, hp, h2]
        have : ((a.length : Int) == -1) = false := by rw [beq_eq_false_iff_ne]; omega
        simp [this]
theorem lineP_cases (s : List UInt8) : (lineP s = none ∧ Lib.index s [13, 10] = -1) ∨ ∃ l r, lineP s = some (l, r) ∧ Lib.index s [13, 10] = (l.length : Int) ∧ s = l ++ 13 :: 10 :: r := by
  rcases index_hit s [13, 10] with h | ⟨a, r, h1, h2⟩
  · exact .inl ⟨by unfold lineP; rw [h]; rfl, h⟩
  · refine .inr ⟨a, r, ?_, h2, by rw [h1]; simp⟩
    unfold lineP
    rw [h2, if_neg (by omega), Int.toNat_natCast, h1]
    simp only [List.append_assoc]
    rw [List.take_left, show a.length + 2 = (a ++ [13, 10]).length by simp, show a ++ ([13, 10] ++ r) = (a ++ [13, 10]) ++ r by simp, List.drop_left]
theorem cutP_cases (s : List UInt8) : (cutP s = none ∧ Lib.cut s [58, 32] = (s, [], false)) ∨ ∃ n v, cutP s = some (n, v) ∧ Lib.cut s [58, 32] = (n, v, true) ∧ s = n ++ 58 :: 32 :: v := by
  rcases index_hit s [58, 32] with h | ⟨a, r, h1, h2⟩
  · exact .inl ⟨by unfold cutP; rw [h]; rfl, by unfold Lib.cut; rw [h]; rfl⟩
  · have e1 : s.take a.length = a := by rw [h1]; simp
    have e2 : s.drop (a.length + 2) = r := by
      rw [h1, show a.length + 2 = (a ++ [58, 32]).length by simp, List.drop_left]
    refine .inr ⟨a, r, ?_, ?_, by rw [h1]; simp⟩
    · unfold cutP
      rw [h2, if_neg (by omega), Int.toNat_natCast, e1, e2]
    · unfold Lib.cut
      rw [h2, if_pos (by omega), Int.toNat_natCast, e1]
      simp only [List.length_cons, List.length_nil]
      rw [e2]
/-- the offset at which a reading fails -/
def failP (s : List UInt8) : Nat :=
  match lineP s with
  | none => 0
  | some (l1, r1) =>
    match codeP l1 with
    | none => 0
    | some _ =>
      match lineP (fldsP 32 r1).2 with
      | none => s.length - (fldsP 32 r1).2.length
      | some (l3, r3) =>
        match lenP l3 with
        | none => s.length - (fldsP 32 r1).2.length
        | some _ =>
          match lineP r3 with
          | none => s.length - r3.length
          | some (l, r) =>
            if l = closeR then
              match lineP r with
              | none => s.length - r.length
              | some (l2, _) => if l2 = [] then s.length else s.length - r.length
            else if l = [] then s.length else s.length - r3.length
/-- a line that is one of a length, and one that is none -/
theorem lenP_some {l : List UInt8} {n : Nat} (h : lenP l = some n) : l = lenR n ∧ n ≤ 4096 := by
  unfold lenP at h
  have h1 := List.find?_some h
  have h2 := List.mem_of_find?_eq_some h
  rw [List.mem_range] at h2
  exact ⟨by simpa using h1, by omega⟩
theorem lenP_none {l : List UInt8} (h : lenP l = none) (n : Nat) (hn : n ≤ 4096) : l ≠ lenR n := by
  rintro rfl
  rw [lenP_len n hn] at h
  cases h
/-- white space at the ends of a printable text -/
theorem isSp_print {b : UInt8} (h1 : 32 ≤ b.toNat) : Lib.isSp b = decide (b = 32) := by
  unfold Lib.isSp
  have e : ∀ k : UInt8, k.toNat < 32 → (b == k) = false := fun k hk => by
    rw [beq_eq_false_iff_ne]; rintro rfl; omega
  rw [e 9 (by decide), e 10 (by decide), e 11 (by decide), e 12 (by decide), e 13 (by decide)]
  rw [Bool.eq_iff_iff]; simp
theorem trim_print (l : List UInt8) (h : ∀ b ∈ l, 32 ≤ b.toNat ∧ b.toNat ≤ 126) : Lib.trimSpaceD l = l ↔ ¬ (l.head? = some 32 ∨ l.getLast? = some 32) := by
  cases l with
  | nil => simp [Lib.trimSpaceD, Lib.trimLeftD, Lib.trimRightD]
  | cons x t =>
    obtain ⟨u, y, huy⟩ : ∃ u y, x :: t = u ++ [y] := ⟨(x :: t).dropLast, (x :: t).getLast (by simp), (List.dropLast_concat_getLast (by simp)).symm⟩
    have hx := h x (by simp)
    have hy := h y (by rw [huy]; simp)
    have hlast : (x :: t).getLast? = some y := by rw [huy]; simp
    have hmono : ∀ (f : Nat) (l : List UInt8), (Lib.trimRightD f l).length ≤ l.length := by
      intro f
      induction f with
      | zero => intro l; simp [Lib.trimRightD]
      | succ f ih =>
        intro l
        unfold Lib.trimRightD
        split
        · simp
        · split
          · exact Nat.le_trans (ih _) (by simp)
          · exact Nat.le_refl _
    have hmonoL : ∀ (f : Nat) (l : List UInt8), (Lib.trimLeftD f l).length ≤ l.length := by
      intro f
      induction f with
      | zero => intro l; simp [Lib.trimLeftD]
      | succ f ih =>
        intro l
        unfold Lib.trimLeftD
        split
        · simp
        · split
          · exact Nat.le_trans (ih _) (by simp)
          · exact Nat.le_refl _
    rw [hlast]
    by_cases h1 : x = 32
    · subst h1
      refine ⟨fun e => ?_, fun e => absurd (.inl rfl) e⟩
      exfalso
      have e2 : Lib.trimSpaceD (32 :: t) = Lib.trimRightD (32 :: t).length (Lib.trimLeftD t.length t) := by
        unfold Lib.trimSpaceD
        rw [show (32 :: t).length = t.length + 1 by simp, Lib.left_step _ _ _ (by decide)]
      have := congrArg List.length e
      rw [e2] at this
      have a1 := hmono (32 :: t).length (Lib.trimLeftD t.length t)
      have a2 := hmonoL t.length t
      simp only [List.length_cons] at this a1
      omega
    · have e2 : Lib.trimSpaceD (x :: t) = Lib.trimRightD (x :: t).length (x :: t) := by
        unfold Lib.trimSpaceD
        rw [show (x :: t).length = t.length + 1 by simp, Lib.left_stop _ _ _ (by rw [isSp_print hx.1]; simpa using h1) (by omega)]
      rw [e2, huy]
      rw [show (u ++ [y]).length = u.length + 1 by simp]
      by_cases h2 : y = 32
      · subst h2
        refine ⟨fun e => ?_, fun e => absurd (.inr rfl) e⟩
        rw [Lib.right_step _ _ _ (by decide)] at e
        have := congrArg List.length e
        have a1 := hmono u.length u
        simp only [List.length_append, List.length_cons, List.length_nil] at this
        omega
      · rw [Lib.right_stop _ _ _ (by rw [isSp_print hy.1]; simpa using h2) (by omega)]
        refine ⟨fun _ => ?_, fun _ => rfl⟩
        rw [← huy]
        simp [h1, h2]
end Go.Proofs.YthhlnpfcpgfcfaaGreatDoor
