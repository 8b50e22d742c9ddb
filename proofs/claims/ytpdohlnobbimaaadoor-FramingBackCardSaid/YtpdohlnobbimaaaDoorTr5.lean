/-
  The reference of tokens (waypostref05): Colon.
-/
import Derived.Test.YtpdohlnobbimaaaDoorTr4
import Derived.Test.YtpdohlnobbimaaaDoorSeq
namespace Go.Proofs.YtpdohlnobbimaaaDoor
open Go.RowKit

theorem tokB_colon : tokB 58 = false := by decide +kernel
theorem takeW_stop (p : UInt8 → Bool) (a r : List UInt8) (c : UInt8) (h : ∀ b ∈ a, p b = true) (hc : p c = false) : (a ++ c :: r).takeWhile p = a ∧ (a ++ c :: r).dropWhile p = c :: r := by
  induction a with
  | nil => simp [hc]
  | cons b a ih =>
    obtain ⟨h1, h2⟩ := ih fun x hx => h x (by simp [hx])
    have hb := h b (by simp)
    simp [hb, h1, h2]
theorem dropW_head (p : UInt8 → Bool) (a r : List UInt8) (h : ∃ b ∈ a, p b = false) : ∃ b t, (a ++ r).dropWhile p = b :: t ∧ p b = false ∧ b ∈ a := by
  induction a with
  | nil => simp at h
  | cons x a ih =>
    by_cases hx : p x = true
    · obtain ⟨b, t, h1, h2, h3⟩ := ih (by
        obtain ⟨b, hb, hp⟩ := h
        rcases List.mem_cons.1 hb with rfl | hb
        · rw [hx] at hp; cases hp
        · exact ⟨b, hb, hp⟩)
      exact ⟨b, t, by rw [List.cons_append, List.dropWhile_cons, if_pos hx]; exact h1, h2, by simp [h3]⟩
    · have hx' : p x = false := by simpa using hx
      exact ⟨x, a ++ r, by rw [List.cons_append, List.dropWhile_cons, if_neg hx], hx', by simp⟩
theorem dropW_mem (p : UInt8 → Bool) (l : List UInt8) : ∀ b ∈ l.dropWhile p, b ∈ l := by
  intro b hb
  rw [← List.takeWhile_append_dropWhile (p := p) (l := l)]
  exact List.mem_append.2 (.inr hb)

/-- what the reference reads off what stands behind the first token -/
def colR (l : List UInt8) : List UInt8 × List UInt8 × Nat :=
  if (cutT l).2.2 = 0 ∧ (cutT l).2.1.head? = some 58 ∧ isVal (trimL (cutT l).2.1.tail) = true then ((cutT l).1, trimL (cutT l).2.1.tail, 0) else ([], [], 3)
theorem colR_eq (l : List UInt8) : colR l = colT l := by
  rcases idx_cases 58 l with ⟨h1, h2⟩ | ⟨a, r, h1, h2, h3⟩
  · have hno : ∀ b ∈ l, b ≠ 58 := by
      have ht : l.takeWhile (· != 58) = l := congrArg Prod.fst h2
      intro b hb
      rw [← ht] at hb
      simpa using tw_all _ _ b hb
    have hL : colT l = ([], [], 3) := by unfold colT; rw [h2]; simp
    rw [hL]
    unfold colR
    rw [if_neg]
    rintro ⟨he, hh, _⟩
    unfold cutT at he hh
    split at he
    · simp at he
    · rename_i hne
      rw [if_neg hne] at hh
      have : (58 : UInt8) ∈ l.dropWhile tokB := by
        cases e : l.dropWhile tokB with
        | nil => rw [e] at hh; simp at hh
        | cons x t => rw [e] at hh; simp at hh; subst hh; simp
      exact hno 58 (dropW_mem _ _ _ this) rfl
  · have hL : colT l = if isTok a && isVal (trimL r) then (a, trimL r, 0) else ([], [], 3) := by unfold colT; rw [h3]; simp
    rw [hL]
    have hno : ∀ b ∈ a, b ≠ 58 := by
      have ht : l.takeWhile (· != 58) = a := congrArg Prod.fst h3
      intro b hb
      rw [← ht] at hb
      simpa using tw_all _ _ b hb
    by_cases hall : ∀ b ∈ a, tokB b = true
    · obtain ⟨t1, t2⟩ := takeW_stop tokB a r 58 hall tokB_colon
      rw [← h1] at t1 t2
      by_cases ha : a = []
      · subst ha
        unfold colR cutT
        rw [t1]
        simp [isTok]
      · have hc : cutT l = (a, 58 :: r, 0) := by unfold cutT; rw [t1, t2, if_neg ha]
        have ht : isTok a = true := by
          unfold isTok
          rw [Bool.and_eq_true]
          exact ⟨by simpa using ha, List.all_eq_true.2 hall⟩
        unfold colR
        rw [hc, ht]
        simp
    · have hex : ∃ b ∈ a, tokB b = false := by
        refine Classical.byContradiction fun h => hall fun b hb => ?_
        cases e : tokB b with
        | true => rfl
        | false => exact absurd ⟨b, hb, e⟩ h
      have ht : isTok a = false := by
        unfold isTok
        obtain ⟨b, hb, hp⟩ := hex
        have : (a.all fun b => tokP b.toNat) = false := by
          rw [List.all_eq_false]; exact ⟨b, hb, by show ¬ tokB b = true; rw [hp]; simp⟩
        rw [this, Bool.and_false]
      rw [ht]
      simp only [Bool.false_and, Bool.false_eq_true, if_false]
      unfold colR
      rw [if_neg]
      rintro ⟨he, hh, _⟩
      unfold cutT at he hh
      split at he
      · simp at he
      · rename_i hne
        rw [if_neg hne] at hh
        obtain ⟨b, t, e1, e2, e3⟩ := dropW_head tokB a (58 :: r) hex
        rw [← h1] at e1
        rw [e1] at hh
        simp at hh
        exact hno b e3 hh

end Go.Proofs.YtpdohlnobbimaaaDoor
