/-
  What is joined is read back: plain facts on lists of tokens. No program in sight.
-/
import Derived.Test.YtepemdmjbfoiaaaDoorRd
import Derived.Test.YtepemdmjbfoiaaaDoorSeq
import Derived.Test.YtepemdmjbfoiaaaDoorTr3
namespace Go.Proofs.YtepemdmjbfoiaaaDoor
open Go.RowKit

theorem tokB_notB {b : UInt8} (h : tokB b = true) : isB b = false := by
  have : ∀ n : Fin 256, tokP n.val = true → isB (UInt8.ofNat n.val) = false := by decide +kernel
  have := this ⟨b.toNat, b.toNat_lt⟩ h
  simpa using this
theorem tokB_not44 {b : UInt8} (h : tokB b = true) : b ≠ 44 := by
  rintro rfl
  revert h
  decide +kernel
theorem tokB_val {b : UInt8} (h : tokB b = true) : valB b = true := by
  have : ∀ n : Fin 256, tokP n.val = true → valP n.val = true := by decide +kernel
  exact this ⟨b.toNat, b.toNat_lt⟩ h
theorem isTok_ne {x : List UInt8} (h : isTok x = true) : x ≠ [] := by
  rintro rfl; simp [isTok] at h
theorem isTok_all {x : List UInt8} (h : isTok x = true) : ∀ b ∈ x, tokB b = true := by
  unfold isTok at h
  rw [Bool.and_eq_true] at h
  exact List.all_eq_true.1 h.2
theorem dropB_all (a r : List UInt8) (h : ∀ b ∈ a, isB b = true) : (a ++ r).dropWhile isB = r.dropWhile isB := by
  induction a with
  | nil => rfl
  | cons x a ih => rw [List.cons_append, List.dropWhile_cons, if_pos (h x (by simp))]; exact ih fun y hy => h y (by simp [hy])
theorem dropB_stop (l : List UInt8) (h : ∀ b, l.head? = some b → isB b = false) : l.dropWhile isB = l := by
  cases l with
  | nil => rfl
  | cons x l => rw [List.dropWhile_cons, if_neg (by rw [h x rfl]; simp)]
theorem trimR_app (x c : List UInt8) (h : ∀ b ∈ c, isB b = true) (hx : ∀ b, x.getLast? = some b → isB b = false) : trimR (x ++ c) = x := by
  unfold trimR
  rw [List.reverse_append, dropB_all _ _ (fun b hb => h b (List.mem_reverse.1 hb)), dropB_stop _ (fun b hb => hx b (by rw [← hb, List.head?_reverse])), List.reverse_reverse]
theorem trim_mid (a x c : List UInt8) (ha : ∀ b ∈ a, isB b = true) (hc : ∀ b ∈ c, isB b = true) (h1 : ∀ b, x.head? = some b → isB b = false) (h2 : ∀ b, x.getLast? = some b → isB b = false) (hne : x ≠ []) : trimL (a ++ x ++ c) = x := by
  rw [trimL_comm, List.append_assoc, dropB_all _ _ ha, dropB_stop, trimR_app _ _ hc h2]
  intro b hb
  cases x with
  | nil => exact absurd rfl hne
  | cons y x => exact h1 b (by simpa using hb)
theorem trim_tok (a x c : List UInt8) (ha : ∀ b ∈ a, isB b = true) (hc : ∀ b ∈ c, isB b = true) (hx : isTok x = true) : trimL (a ++ x ++ c) = x :=
  trim_mid a x c ha hc (fun b hb => tokB_notB (isTok_all hx b (List.mem_of_head? hb))) (fun b hb => tokB_notB (isTok_all hx b (List.mem_of_getLast? hb))) (isTok_ne hx)
theorem pick_tok (a x c : List UInt8) (ha : ∀ b ∈ a, isB b = true) (hc : ∀ b ∈ c, isB b = true) (hx : isTok x = true) : badE (a ++ x ++ c) = false ∧ pickE (a ++ x ++ c) = some (lowL x) := by
  unfold badE pickE
  rw [trim_tok a x c ha hc hx, hx]
  refine ⟨by simp, ?_⟩
  rw [if_neg]
  simpa using isTok_ne hx

/-- the elements of what Join makes, a blank prefix of the first and a blank suffix of the last let by -/
theorem split_joined (z : List UInt8) (hz : ∀ b ∈ z, isB b = true) : ∀ (r : List (List UInt8)) (a x : List UInt8), (∀ b ∈ a, isB b = true) → isTok x = true → (∀ y ∈ r, isTok y = true) →
    (splitC 44 (a ++ x ++ Lib.joinTail sep2 r ++ z)).any badE = false ∧ (splitC 44 (a ++ x ++ Lib.joinTail sep2 r ++ z)).filterMap pickE = (x :: r).map lowL := by
  have h44 : ∀ b, isB b = true → b ≠ 44 := by
    rintro b hb rfl; revert hb; decide
  intro r
  induction r with
  | nil =>
    intro a x ha hx _
    have e : Lib.joinTail sep2 [] = [] := rfl
    rw [e, List.append_nil, split_none 44 (a ++ x ++ z)]
    · obtain ⟨h1, h2⟩ := pick_tok a x z ha hz hx
      rw [List.any_cons, h1, List.filterMap_cons, h2]
      exact ⟨rfl, rfl⟩
    · intro b hb
      rcases List.mem_append.1 hb with hb | hb
      · rcases List.mem_append.1 hb with hb | hb
        · exact h44 b (ha b hb)
        · exact tokB_not44 (isTok_all hx b hb)
      · exact h44 b (hz b hb)
  | cons y r ih =>
    intro a x ha hx hr
    obtain ⟨i1, i2⟩ := ih [32] y (by intro b hb; simp at hb; subst hb; rfl) (hr y (by simp)) (fun q hq => hr q (by simp [hq]))
    have e : a ++ x ++ Lib.joinTail sep2 (y :: r) ++ z = (a ++ x) ++ 44 :: ([32] ++ y ++ Lib.joinTail sep2 r ++ z) := by
      simp [Lib.joinTail, sep2]
    have hs := split_at 44 (a ++ x) ([32] ++ y ++ Lib.joinTail sep2 r ++ z) (by
      intro b hb
      rcases List.mem_append.1 hb with hb | hb
      · exact h44 b (ha b hb)
      · exact tokB_not44 (isTok_all hx b hb))
    obtain ⟨h1, h2⟩ := pick_tok a x [] ha (by simp) hx
    rw [List.append_nil] at h1 h2
    rw [e, hs]
    refine ⟨by rw [List.any_cons, h1, i1]; rfl, ?_⟩
    rw [List.filterMap_cons, h2, i2]
    rfl
end Go.Proofs.YtepemdmjbfoiaaaDoor
