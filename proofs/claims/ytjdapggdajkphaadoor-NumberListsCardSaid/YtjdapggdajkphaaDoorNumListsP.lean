/-
  Plain facts on lists of equal numbers with blanks and zeros between commas.
-/
import Derived.Test.YtjdapggdajkphaaDoorNumS1
import Derived.Test.YtjdapggdajkphaaDoorNumZeros
namespace Go.Proofs.YtjdapggdajkphaaDoor

theorem splitC_comma (c : UInt8) (A B : List UInt8) : splitC c (A ++ c :: B) = splitC c A ++ splitC c B := by
  induction A with
  | nil => simp [splitC]
  | cons a A ih =>
    by_cases h : a = c
    · subst h
      rw [List.cons_append, splitC, if_pos rfl, ih, splitC, if_pos rfl]; rfl
    · cases e : splitC c A with
      | nil => exact absurd e (splitC_ne c A)
      | cons x t =>
        rw [List.cons_append, splitC_step c a A x t h e]
        rw [e, List.cons_append] at ih
        rw [splitC_step c a _ x _ h ih]
        rfl
theorem splitC_none (c : UInt8) (B : List UInt8) (h : ∀ b ∈ B, b ≠ c) : splitC c B = [B] := by
  induction B with
  | nil => rfl
  | cons b B ih => exact splitC_step c b B B [] (h b (by simp)) (ih (fun x hx => h x (by simp [hx])))
theorem splitC_more (c : UInt8) (A B : List UInt8) (h : ∀ b ∈ B, b ≠ c) (I : List (List UInt8)) (l : List UInt8) (e : splitC c A = I ++ [l]) : splitC c (A ++ B) = I ++ [l ++ B] := by
  induction A generalizing I l with
  | nil =>
    simp only [splitC] at e
    cases I with
    | nil => simp at e; subst e; simpa using splitC_none c B h
    | cons a I => simp at e
  | cons a A ih =>
    by_cases ha : a = c
    · subst ha
      rw [splitC, if_pos rfl] at e
      rw [List.cons_append, splitC, if_pos rfl]
      cases I with
      | nil => simp at e; exact absurd e.2 (splitC_ne a A)
      | cons x I =>
        simp only [List.cons_append, List.cons.injEq] at e
        rw [← e.1, ih I l e.2]
        rfl
    · cases e2 : splitC c A with
      | nil => exact absurd e2 (splitC_ne c A)
      | cons x t =>
        rw [splitC_step c a A x t ha e2] at e
        cases I with
        | nil =>
          simp only [List.nil_append, List.cons.injEq] at e
          obtain ⟨rfl, rfl⟩ := e
          have := ih [] x e2
          rw [List.cons_append, splitC_step c a _ _ _ ha this]
          rfl
        | cons y I =>
          simp only [List.cons_append, List.cons.injEq] at e
          obtain ⟨rfl, rfl⟩ := e
          have := ih (x :: I) l (by rw [e2]; rfl)
          rw [List.cons_append, splitC_step c a _ _ _ ha this]
          rfl

theorem dropWhile_all (p : UInt8 → Bool) (A B : List UInt8) (h : ∀ b ∈ A, p b = true) : (A ++ B).dropWhile p = B.dropWhile p := by
  induction A with
  | nil => rfl
  | cons a A ih => rw [List.cons_append, List.dropWhile_cons, if_pos (h a (by simp))]; exact ih (fun b hb => h b (by simp [hb]))
theorem dropWhile_no (p : UInt8 → Bool) (a : UInt8) (A : List UInt8) (h : p a = false) : (a :: A).dropWhile p = a :: A := by rw [List.dropWhile_cons, if_neg (by simp [h])]
/-- blanks around a text whose ends are no blanks -/
theorem trimL_mid (p m q : List UInt8) (hp : ∀ b ∈ p, isB b = true) (hq : ∀ b ∈ q, isB b = true) (hm : m ≠ []) (hm' : ∀ b ∈ m, isB b = false) : trimL (p ++ m ++ q) = m := by
  rw [trimL_comm, List.append_assoc, dropWhile_all _ _ _ hp]
  cases m with
  | nil => exact absurd rfl hm
  | cons a A =>
    rw [List.cons_append, dropWhile_no _ _ _ (hm' a (by simp))]
    unfold trimR
    rw [← List.cons_append, List.reverse_append, dropWhile_all _ _ _ (by simpa using hq)]
    cases e : (a :: A).reverse with
    | nil => simp at e
    | cons b B =>
      have hb : b ∈ (a :: A) := by rw [← List.mem_reverse, e]; simp
      rw [dropWhile_no _ _ _ (hm' b hb), ← e, List.reverse_reverse]
theorem isB_iff2 (b : UInt8) : isB b = true ↔ b.toNat = 32 ∨ b.toNat = 9 := by
  simp only [isB, Bool.or_eq_true, beq_iff_eq]
  constructor
  · rintro (h | h) <;> subst h
    · exact .inl rfl
    · exact .inr rfl
  · rintro (h | h)
    · exact .inl (UInt8.toNat_inj.1 h)
    · exact .inr (UInt8.toNat_inj.1 h)
theorem digit_noB (b : UInt8) (h : dvN false b.toNat < 16) : isB b = false := by
  cases hb : isB b with
  | false => rfl
  | true =>
    rcases (isB_iff2 b).1 hb with h1 | h1 <;> rw [h1] at h <;> simp [dvN] at h
theorem digit_noC (b : UInt8) (h : dvN false b.toNat < 16) : b ≠ 44 := by
  intro e; subst e; simp [dvN] at h

/-- a piece of the list: blanks, zeros, the numeral, blanks -/
def Piece (S x : List UInt8) : Prop := ∃ (p q : List UInt8) (z : Nat), x = p ++ (List.replicate z 48 ++ S) ++ q ∧ (∀ b ∈ p, isB b = true) ∧ (∀ b ∈ q, isB b = true) ∧ z ≤ 2
/-- the list while it grows: its last piece has no blanks behind it -/
def ListInv (S L : List UInt8) : Prop := ∃ (I : List (List UInt8)) (p : List UInt8) (z : Nat), splitC 44 L = I ++ [p ++ (List.replicate z 48 ++ S)] ∧ (∀ b ∈ p, isB b = true) ∧ z ≤ 2 ∧ ∀ x ∈ I, Piece S x
theorem blank_noC (l : List UInt8) (h : ∀ b ∈ l, isB b = true) : ∀ b ∈ l, b ≠ 44 := by
  intro b hb e
  have := h b hb
  subst e
  simp [isB] at this
theorem ListInv.start (S : List UInt8) (hS : ∀ b ∈ S, dvN false b.toNat < 16) : ListInv S S :=
  ⟨[], [], 0, by rw [splitC_none 44 S (fun b hb => digit_noC b (hS b hb))]; simp, by simp, by omega, by simp⟩
theorem ListInv.step {S L : List UInt8} (h : ListInv S L) (hS : ∀ b ∈ S, dvN false b.toNat < 16) (b1 b2 : List UInt8) (z : Nat) (h1 : ∀ b ∈ b1, isB b = true) (h2 : ∀ b ∈ b2, isB b = true) (hz : z ≤ 2) : ListInv S (L ++ b1 ++ 44 :: (b2 ++ (List.replicate z 48 ++ S))) := by
  obtain ⟨I, p, y, he, hp, hy, hI⟩ := h
  refine ⟨I ++ [p ++ (List.replicate y 48 ++ S) ++ b1], b2, z, ?_, h2, hz, ?_⟩
  · rw [splitC_comma, splitC_more 44 L b1 (blank_noC b1 h1) I _ he, splitC_none 44 (b2 ++ (List.replicate z 48 ++ S))]
    intro b hb
    rcases List.mem_append.1 hb with hb | hb
    · exact blank_noC b2 h2 b hb
    · exact digit_noC b (zeros_all false z S hS b hb)
  · intro x hx
    rcases List.mem_append.1 hx with hx | hx
    · exact hI x hx
    · rw [List.mem_singleton.1 hx]
      exact ⟨p, b1, y, rfl, hp, h1, hy⟩
theorem ListInv.pieces {S L : List UInt8} (h : ListInv S L) : ∀ x ∈ splitC 44 L, Piece S x := by
  obtain ⟨I, p, y, he, hp, hy, hI⟩ := h
  intro x hx
  rw [he] at hx
  rcases List.mem_append.1 hx with hx | hx
  · exact hI x hx
  · rw [List.mem_singleton.1 hx]
    exact ⟨p, [], y, by simp, hp, by simp, hy⟩
theorem Piece.reads {S x : List UInt8} (h : Piece S x) (n most : Nat) (hS : ∀ b ∈ S, dvN false b.toNat < 16) (h0 : S ≠ []) (hv : valA false 0 S = n) (hl : S.length ≤ 20) (hn : n < 18446744073709551616) (hm : n ≤ most) :
    badEl (trimL x) = false ∧ rdN false (trimL x) 30 most = (n, 0) := by
  obtain ⟨p, q, z, rfl, hp, hq, hz⟩ := h
  have hall := zeros_all false z S hS
  have hne : List.replicate z 48 ++ S ≠ [] := by simp only [ne_eq, List.append_eq_nil_iff, not_and]; intro _; exact h0
  rw [trimL_mid p _ q hp hq hne (fun b hb => digit_noB b (hall b hb))]
  refine ⟨?_, rd_of false _ 30 most n hne hall (by rw [valA_zeros]; exact hv) hn (by simp; omega) hm⟩
  unfold badEl
  rw [pfx_all false _ hall]
  simp [h0]
/-- a list whose elements are all one number is this number -/
theorem sameR_all (E : List (List UInt8)) (n most : Nat) (hne : E ≠ []) (h : ∀ x ∈ E, badEl x = false ∧ rdN false x 30 most = (n, 0)) : sameR E 30 most = (n, 0) := by
  unfold sameR
  rw [if_neg (by rw [Bool.not_eq_true, List.any_eq_false]; intro x hx; rw [(h x hx).1]; simp)]
  rw [find_none' _ _ (fun a ha => by obtain ⟨x, hx, rfl⟩ := List.mem_map.1 ha; rw [(h x hx).2]; rfl)]
  have hh : (E.map fun x => (rdN false x 30 most).1).headD 0 = n := by
    cases E with
    | nil => exact absurd rfl hne
    | cons a l => simp [(h a (by simp)).2]
  simp only
  rw [hh, if_pos]
  rw [List.all_eq_true]
  intro y hy
  obtain ⟨x, hx, rfl⟩ := List.mem_map.1 hy
  rw [(h x hx).2]; simp
/-- and with another number behind it is none -/
theorem sameR_other (E : List (List UInt8)) (x : List UInt8) (n o most : Nat) (hne : E ≠ []) (h : ∀ x ∈ E, badEl x = false ∧ rdN false x 30 most = (n, 0)) (hx : badEl x = false ∧ rdN false x 30 most = (o, 0)) (hno : o ≠ n) : (sameR (E ++ [x]) 30 most).2 = 7 := by
  unfold sameR
  have hall : ∀ y ∈ E ++ [x], badEl y = false ∧ (rdN false y 30 most).2 = 0 := by
    intro y hy
    rcases List.mem_append.1 hy with hy | hy
    · exact ⟨(h y hy).1, by rw [(h y hy).2]⟩
    · rw [List.mem_singleton.1 hy]; exact ⟨hx.1, by rw [hx.2]⟩
  rw [if_neg (by rw [Bool.not_eq_true, List.any_eq_false]; intro y hy; rw [(hall y hy).1]; simp)]
  rw [find_none' _ _ (fun a ha => by obtain ⟨y, hy, rfl⟩ := List.mem_map.1 ha; rw [(hall y hy).2]; rfl)]
  have hh : ((E ++ [x]).map fun x => (rdN false x 30 most).1).headD 0 = n := by
    cases E with
    | nil => exact absurd rfl hne
    | cons a l => simp [(h a (by simp)).2]
  simp only
  rw [hh, if_neg]
  rw [List.all_eq_true]
  intro hc
  have := hc o (List.mem_map.2 ⟨x, by simp, by rw [hx.2]⟩)
  exact hno (by simpa using this)
end Go.Proofs.YtjdapggdajkphaaDoor
