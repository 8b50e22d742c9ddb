/-
  What is joined is read back: the two texts that the statement asks. No program in sight.
-/
import Derived.Test.YtepemdmjbfoiaaaDoorTokBackP
import Derived.Test.YtepemdmjbfoiaaaDoorLTokTrims
namespace Go.Proofs.YtepemdmjbfoiaaaDoor
open Go.RowKit

theorem last_tok {x : List UInt8} (hx : isTok x = true) : ∀ b, x.getLast? = some b → isB b = false := fun b hb => tokB_notB (isTok_all hx b (List.mem_of_getLast? hb))
theorem last_joined : ∀ (r : List (List UInt8)) (x : List UInt8), x ≠ [] → (∀ b, x.getLast? = some b → isB b = false) → (∀ y ∈ r, isTok y = true) → ∀ b, (x ++ Lib.joinTail sep2 r).getLast? = some b → isB b = false := by
  intro r
  induction r with
  | nil => intro x _ hx _ b hb; simp [Lib.joinTail] at hb; exact hx b hb
  | cons y r ih =>
    intro x hne hx hr b hb
    have hy := hr y (by simp)
    refine ih (x ++ sep2 ++ y) (by simp [sep2]) (fun c hc => ?_) (fun z hz => hr z (by simp [hz])) b (by simpa [Lib.joinTail] using hb)
    rw [List.getLast?_append] at hc
    cases e : y.getLast? with
    | none => rw [List.getLast?_eq_none_iff] at e; exact absurd e (isTok_ne hy)
    | some d => rw [e] at hc; simp at hc; subst hc; exact last_tok hy d e
theorem all_joined (p : UInt8 → Bool) (h1 : ∀ b, tokB b = true → p b = true) (h2 : p 44 = true) (h3 : p 32 = true) (r : List (List UInt8)) (hr : ∀ y ∈ r, isTok y = true) : (Lib.joinTail sep2 r).all p = true := by
  induction r with
  | nil => rfl
  | cons y r ih =>
    have e : Lib.joinTail sep2 (y :: r) = sep2 ++ y ++ Lib.joinTail sep2 r := by simp [Lib.joinTail]
    rw [e, List.all_append, List.all_append, ih fun z hz => hr z (by simp [hz])]
    have hy : y.all p = true := List.all_eq_true.2 fun b hb => h1 b (isTok_all (hr y (by simp)) b hb)
    rw [hy]
    simp [sep2, h2, h3]
theorem trimL_id (l : List UInt8) (h1 : ∀ b, l.head? = some b → isB b = false) (h2 : ∀ b, l.getLast? = some b → isB b = false) : trimL l = l := by
  by_cases hne : l = []
  · subst hne; rfl
  · have := trim_mid [] l [] (by simp) (by simp) h1 h2 hne
    simpa using this
theorem isVal_of (l : List UInt8) (h1 : ∀ b, l.head? = some b → isB b = false) (h2 : ∀ b, l.getLast? = some b → isB b = false) (h3 : l.all valB = true) : isVal l = true := by
  unfold isVal
  rw [trimL_id l h1 h2, beq_self_eq_true, Bool.true_and]
  exact h3
theorem joinTail_len (r : List (List UInt8)) (h : ∀ y ∈ r, y.length ≤ 6) : (Lib.joinTail sep2 r).length ≤ 8 * r.length := by
  induction r with
  | nil => simp [Lib.joinTail]
  | cons y r ih =>
    have e : Lib.joinTail sep2 (y :: r) = sep2 ++ y ++ Lib.joinTail sep2 r := by simp [Lib.joinTail]
    have h1 := ih fun z hz => h z (by simp [hz])
    have h2 := h y (by simp)
    rw [e, List.length_append, List.length_append, List.length_cons]
    have : sep2.length = 2 := rfl
    omega
theorem joinL_cons (x : List UInt8) (r : List (List UInt8)) : joinL (x :: r) = x ++ Lib.joinTail sep2 r := Lib.join_cons x r sep2
theorem joinL_short (xs : List (List UInt8)) (hl : xs.length ≤ 12) (h6 : ∀ y ∈ xs, y.length ≤ 6) : (joinL xs).length ≤ 102 := by
  cases xs with
  | nil => simp [joinL, Lib.join_nil]
  | cons x r =>
    rw [joinL_cons, List.length_append]
    have h1 := joinTail_len r fun y hy => h6 y (by simp [hy])
    have h2 := h6 x (by simp)
    simp only [List.length_cons] at hl
    omega
/-- what Join makes is a list with the same tokens -/
theorem list_join (xs : List (List UInt8)) (hl : xs.length ≤ 12) (h6 : ∀ y ∈ xs, y.length ≤ 6) (ht : ∀ y ∈ xs, isTok y = true) : listT (joinL xs) = (xs.map lowL, 0) := by
  have hs := joinL_short xs hl h6
  cases xs with
  | nil => decide +kernel
  | cons x r =>
    have hx := ht x (by simp)
    have hr : ∀ y ∈ r, isTok y = true := fun y hy => ht y (by simp [hy])
    obtain ⟨h1, h2⟩ := split_joined [] (by simp) r [] x (by simp) hx hr
    rw [List.append_nil, List.nil_append] at h1 h2
    have hv : isVal (joinL (x :: r)) = true := by
      rw [joinL_cons]
      refine isVal_of _ (fun b hb => ?_) (last_joined r x (isTok_ne hx) (last_tok hx) hr) ?_
      · cases x with
        | nil => exact absurd rfl (isTok_ne hx)
        | cons c x => simp at hb; subst hb; exact tokB_notB (isTok_all hx c (by simp))
      · rw [List.all_append, all_joined valB (fun b h => tokB_val h) (by decide +kernel) (by decide +kernel) r hr, Bool.and_true]
        exact List.all_eq_true.2 fun b hb => tokB_val (isTok_all hx b hb)
    unfold listT
    rw [if_neg (by omega), hv, if_neg (by simp), joinL_cons, h1, if_neg (by simp), h2]
/-- .. and empty elements and blanks change nothing -/
theorem list_wide (xs : List (List UInt8)) (hl : xs.length ≤ 12) (h6 : ∀ y ∈ xs, y.length ≤ 6) (ht : ∀ y ∈ xs, isTok y = true) : listT (44 :: (joinL xs ++ [32, 9, 44, 44, 32, 44])) = (xs.map lowL, 0) := by
  have hs := joinL_short xs hl h6
  cases xs with
  | nil => decide +kernel
  | cons x r =>
    have hx := ht x (by simp)
    have hr : ∀ y ∈ r, isTok y = true := fun y hy => ht y (by simp [hy])
    obtain ⟨h1, h2⟩ := split_joined [32, 9] (by decide) r [] x (by simp) hx hr
    rw [List.nil_append] at h1 h2
    have hall : (joinL (x :: r)).all valB = true := by
      rw [joinL_cons, List.all_append, all_joined valB (fun b h => tokB_val h) (by decide +kernel) (by decide +kernel) r hr, Bool.and_true]
      exact List.all_eq_true.2 fun b hb => tokB_val (isTok_all hx b hb)
    have hv : isVal (44 :: (joinL (x :: r) ++ [32, 9, 44, 44, 32, 44])) = true := by
      refine isVal_of _ (fun b hb => ?_) (fun b hb => ?_) ?_
      · simp at hb; subst hb; rfl
      · rw [List.getLast?_cons, List.getLast?_append] at hb
        simp at hb; subst hb; rfl
      · rw [List.all_cons, List.all_append, hall]
        decide +kernel
    have hsplit : splitC 44 (44 :: (joinL (x :: r) ++ [32, 9, 44, 44, 32, 44])) = [] :: (splitC 44 (x ++ Lib.joinTail sep2 r ++ [32, 9]) ++ [[], [32], []]) := by
      have happ : ∀ a b : List UInt8, splitC 44 (a ++ 44 :: b) = splitC 44 a ++ splitC 44 b := by
        intro a b
        induction a with
        | nil => simp [splitC]
        | cons c a ih =>
          rw [List.cons_append]
          by_cases hc : c = 44
          · subst hc
            rw [splitC, if_pos rfl, ih, splitC, if_pos rfl]; rfl
          · rcases hsp : splitC 44 a with _ | ⟨p, q⟩
            · exact absurd hsp (splitC_ne 44 a)
            · rw [splitC_step 44 c (a ++ 44 :: b) p (q ++ splitC 44 b) hc (by rw [ih, hsp]; rfl), splitC_step 44 c a p q hc hsp]; rfl
      have e : (44 : UInt8) :: (joinL (x :: r) ++ [32, 9, 44, 44, 32, 44]) = [] ++ 44 :: ((x ++ Lib.joinTail sep2 r ++ [32, 9]) ++ 44 :: [44, 32, 44]) := by
        rw [joinL_cons]; simp
      rw [e, happ, happ]
      rfl
    unfold listT
    rw [if_neg (by simp; omega), hv, if_neg (by simp), hsplit]
    have b1 : badE [] = false := by decide +kernel
    have b2 : badE [32] = false := by decide +kernel
    have p1 : pickE [] = none := by decide +kernel
    have p2 : pickE [32] = none := by decide +kernel
    have hb : ([] :: (splitC 44 (x ++ Lib.joinTail sep2 r ++ [32, 9]) ++ [[], [32], []])).any badE = false := by
      rw [List.any_cons, List.any_append, h1, b1]
      simp [b1, b2]
    rw [hb, if_neg (by simp), List.filterMap_cons, p1]
    simp only [List.filterMap_append, h2]
    simp [p1, p2]
/-- a list holds each of its tokens -/
theorem holds_join (xs : List (List UInt8)) (hl : xs.length ≤ 12) (h6 : ∀ y ∈ xs, y.length ≤ 6) (ht : ∀ y ∈ xs, isTok y = true) (x : List UInt8) (hx : x ∈ xs) : holdsT (joinL xs) x = (true, 0) := by
  unfold holdsT
  rw [list_join xs hl h6 ht, ht x hx]
  simp only [ne_eq, not_true_eq_false, if_false, Bool.true_eq_false]
  congr 1
  rw [List.contains_iff_mem]
  exact List.mem_map.2 ⟨x, hx, rfl⟩
end Go.Proofs.YtepemdmjbfoiaaaDoor
