/-
  Responses in plain words: the program's own reading of what was written.
-/
import Derived.Test.YthhlnpfcpgfcfaaDoorRs9
namespace Go.Proofs.YthhlnpfcpgfcfaaDoor
open Go.RowKit

theorem suf_drop {s p t : List UInt8} (h : s = p ++ t) : s.drop (s.length - t.length) = t := by
  subst h
  rw [show (p ++ t).length - t.length = p.length by simp, List.drop_left]
theorem fldsP_suf : ∀ (n : Nat) (s : List UInt8), ∃ p, s = p ++ (fldsP n s).2
  | 0, s => ⟨[], by simp [fldsP]⟩
  | n + 1, s => by
    unfold fldsP
    rcases lineP_cases s with ⟨e, _⟩ | ⟨l, r, e, _, hs⟩
    · rw [e]; exact ⟨[], rfl⟩
    · rw [e]
      simp only
      cases hc : cutP l with
      | none => exact ⟨[], rfl⟩
      | some f =>
        simp only
        by_cases hm : mayR f = 0
        · rw [if_pos hm]
          obtain ⟨p, hp⟩ := fldsP_suf n r
          refine ⟨l ++ 13 :: 10 :: p, ?_⟩
          simp only [List.append_assoc, List.cons_append]
          rw [← hp]
          exact hs
        · rw [if_neg hm]; exact ⟨[], rfl⟩
theorem endR_cases {s r3 : List UInt8} {a : Nat} (hd : s.drop a = r3) {h : Bool} {c : Int} {fs : List (List UInt8 × List UInt8)} {n : Nat} {x : Rsp × List UInt8} (hp : tailP h c fs n r3 = some x) :
    ∃ cl r p, r3 = p ++ r ∧ endR s a false = (a + p.length, cl, true) ∧ endP h c fs n cl r = some x := by
  unfold tailP at hp
  unfold endR
  rw [hd]
  rcases lineP_cases r3 with ⟨e, _⟩ | ⟨l, r, e, _, hs⟩
  · rw [e] at hp; cases hp
  · rw [e] at hp ⊢
    simp only at hp ⊢
    by_cases hc : l = closeR
    · rw [if_pos hc] at hp ⊢
      rcases lineP_cases r with ⟨e2, _⟩ | ⟨l2, r2, e2, _, hs2⟩
      · rw [e2] at hp; cases hp
      · rw [e2] at hp ⊢
        simp only at hp ⊢
        by_cases h2 : l2 = []
        · rw [if_pos h2] at hp ⊢
          refine ⟨true, r2, l ++ 13 :: 10 :: (l2 ++ [13, 10]), ?_, ?_, hp⟩
          · rw [hs, hs2]; simp
          · subst h2; simp; omega
        · rw [if_neg h2] at hp; cases hp
    · rw [if_neg hc] at hp ⊢
      by_cases h2 : l = []
      · rw [if_pos h2] at hp ⊢
        refine ⟨false, r, l ++ [13, 10], by rw [hs]; simp, ?_, hp⟩
        subst h2; simp
      · rw [if_neg h2] at hp; cases hp
theorem parseA_of {h : Bool} {s m : List UInt8} {r : Rsp} (hp : parseR h s = some (r, m)) : parseA h s = (some (r, s.length - m.length), 0) := by
  unfold parseR at hp
  rcases lineP_cases s with ⟨e, _⟩ | ⟨l1, r1, e, _, hs⟩
  · rw [e] at hp; cases hp
  · rw [e] at hp
    simp only at hp
    cases hc : codeP l1 with
    | none => rw [hc] at hp; cases hp
    | some c =>
      rw [hc] at hp
      simp only at hp
      have hd1 : s.drop (0 + l1.length + 2) = r1 := (len_line (show s.drop 0 = l1 ++ 13 :: 10 :: r1 from hs)).2
      obtain ⟨p, hp1⟩ := fldsP_suf 32 r1
      unfold parseA
      rw [show s.drop 0 = s from rfl, e]
      simp only
      rw [hc]
      simp only
      rw [hd1]
      obtain ⟨fs, r2, hfl⟩ : ∃ fs r2, fldsP 32 r1 = (fs, r2) := ⟨_, _, rfl⟩
      rw [hfl] at hp hp1 ⊢
      simp only at hp hp1 ⊢
      have hs2 : s = (l1 ++ 13 :: 10 :: p) ++ r2 := by rw [hs]; conv => lhs; rw [hp1]
                                                       simp
      rw [suf_drop hs2]
      rcases lineP_cases r2 with ⟨e2, _⟩ | ⟨l3, r3, e2, _, hs3⟩
      · rw [e2] at hp; cases hp
      · rw [e2] at hp ⊢
        simp only at hp ⊢
        cases hn : lenP l3 with
        | none => rw [hn] at hp; cases hp
        | some n =>
          rw [hn] at hp
          simp only at hp ⊢
          have hd3 := (len_line (show s.drop (s.length - r2.length) = l3 ++ 13 :: 10 :: r3 by rw [suf_drop hs2]; exact hs3)).2
          obtain ⟨cl, r4, p4, h41, h42, h43⟩ := endR_cases hd3 hp
          rw [h42]
          simp only [Bool.true_eq_false, if_false]
          have z2 := congrArg List.length hs2
          have z3 := congrArg List.length hs3
          have z4 := congrArg List.length h41
          simp only [List.length_append, List.length_cons] at z2 z3 z4
          have hpos : s.length - r2.length + l3.length + 2 + p4.length = s.length - r4.length := by omega
          have hd4 : s.drop (s.length - r4.length) = r4 := by
            refine suf_drop (p := (l1 ++ 13 :: 10 :: p) ++ (l3 ++ 13 :: 10 :: p4)) ?_
            rw [hs2, hs3, h41]; simp
          rw [hpos, hd4]
          unfold endP at h43
          cases h with
          | true =>
            simp only [if_true] at h43 ⊢
            obtain ⟨a1, a2⟩ := Prod.mk.inj (Option.some.inj h43)
            subst a1 a2
            rfl
          | false =>
            simp only [Bool.false_eq_true, if_false] at h43 ⊢
            by_cases hlt : r4.length < n
            · rw [if_pos hlt] at h43; cases h43
            · rw [if_neg hlt] at h43
              obtain ⟨a1, a2⟩ := Prod.mk.inj (Option.some.inj h43)
              subst a1 a2
              have hq : s.length - (s.length - r4.length) = r4.length := by clear hn hp hlt; omega
              have hq2 : s.length - r4.length + n = s.length - (r4.length - n) := by clear hn hp; omega
              rw [hq, if_neg hlt, List.length_drop, hq2]
/-- a response as it is read back -/
def backR (r : Rsp) : Rsp := { r with body := if r.head then [] else r.body }
theorem parseA_text (r : Rsp) (hc : checkR r = 0) (more : List UInt8) : parseA r.head (textR r ++ more) = (some (backR r, (textR r).length), 0) := by
  rw [parseA_of (parse_text r hc more)]
  simp [backR]
theorem parse_back {r : Rsp} {s : List UInt8} {w : World} (hc : checkR r = 0) (more : List UInt8) (hs : s = textR r ++ more) {h : Bool} (hh : r.head = h) :
    ParsePost h s w = fun e w' => ∃ A c, e = .returned (.tuple #[rspV (backR r) A r.flds.length c, .int .i64 ((textR r).length : Nat), .agg #[.int .i64 0, .int .i64 0]]) ∧ Reads w' w'.heap.size 2 A r.flds.length (fldsC r.flds) ∧ r.flds.length ≤ c ∧ Below w.heap.size w w' := by
  subst hh
  funext e w'
  unfold ParsePost
  rw [hs, parseA_text r hc more]
  rfl
end Go.Proofs.YthhlnpfcpgfcfaaDoor
