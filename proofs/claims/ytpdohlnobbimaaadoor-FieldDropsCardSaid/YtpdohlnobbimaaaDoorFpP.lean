/-
  Put, Drop and All in plain words: what they do to lists of fields made of numbers.
-/
import Derived.Test.YtpdohlnobbimaaaDoorFdM
namespace Go.Proofs.YtpdohlnobbimaaaDoor
open Go.RowKit

theorem sameN_self (x : Fld) : sameN x.1 x = true := by unfold sameN; simp
theorem goneF_one (nm : List UInt8) (f : Fld) : goneF [nm] f = sameN nm f := by simp [goneF]
theorem putL_true (x : Fld) (l : List Fld) : putL x true l = dropL [x.1] l := by
  induction l with
  | nil => rfl
  | cons f r ih =>
    unfold dropL at ih ⊢
    rw [putL, List.filter_cons, goneF_one]
    cases h : sameN x.1 f <;> simp [ih]
theorem putL_none (x : Fld) (d : Bool) (l : List Fld) (h : l.any (sameN x.1) = false) : putL x d l = l := by
  induction l with
  | nil => rfl
  | cons f r ih =>
    rw [List.any_cons, Bool.or_eq_false_iff] at h
    rw [putL, h.1, ih h.2]; rfl
theorem dropL_drop (nm : List UInt8) (l : List Fld) : dropL [nm] (dropL [nm] l) = dropL [nm] l := by
  unfold dropL; rw [List.filter_filter]; simp
theorem dropL_same (nm : List UInt8) (l : List Fld) : (dropL [nm] l).filter (sameN nm) = [] := by
  rw [List.filter_eq_nil_iff]
  intro f hf
  unfold dropL at hf
  have := (List.mem_filter.1 hf).2
  rw [goneF_one] at this
  simpa using this
theorem putL_drop (x : Fld) (d : Bool) (l : List Fld) : dropL [x.1] (putL x d l) = dropL [x.1] l := by
  induction l generalizing d with
  | nil => rfl
  | cons f r ih =>
    rw [putL]
    by_cases h : sameN x.1 f = true
    · rw [if_pos h]
      have h1 : dropL [x.1] (f :: r) = dropL [x.1] r := by unfold dropL; rw [List.filter_cons, goneF_one, h]; rfl
      have h2 : dropL [x.1] (x :: putL x true r) = dropL [x.1] (putL x true r) := by unfold dropL; rw [List.filter_cons, goneF_one, sameN_self]; rfl
      rw [h1]
      cases d with
      | true => rw [if_pos rfl, ih]
      | false => rw [if_neg (by simp), h2, ih]
    · have h' : sameN x.1 f = false := by simpa using h
      rw [if_neg h]
      have h1 : ∀ z, dropL [x.1] (f :: z) = f :: dropL [x.1] z := fun z => by unfold dropL; rw [List.filter_cons, goneF_one, h']; rfl
      rw [h1, h1, ih]
theorem putL_same (x : Fld) (l : List Fld) (h : l.any (sameN x.1) = true) : (putL x false l).filter (sameN x.1) = [x] ∧ putL x false (putL x false l) = putL x false l := by
  induction l with
  | nil => simp at h
  | cons f r ih =>
    by_cases hf : sameN x.1 f = true
    · have e : putL x false (f :: r) = x :: dropL [x.1] r := by rw [putL, if_pos hf, if_neg (by simp), putL_true]
      rw [e]
      refine ⟨by rw [List.filter_cons, sameN_self, if_pos rfl, dropL_same], ?_⟩
      rw [putL, if_pos (sameN_self x), if_neg (by simp), putL_true, dropL_drop]
    · have hf' : sameN x.1 f = false := by simpa using hf
      have hr : r.any (sameN x.1) = true := by rw [List.any_cons, hf'] at h; simpa using h
      obtain ⟨i1, i2⟩ := ih hr
      have e : ∀ z, putL x false (f :: z) = f :: putL x false z := fun z => by rw [putL, if_neg hf]
      rw [e, e, i2]
      refine ⟨by rw [List.filter_cons, hf', if_neg (by simp), i1], rfl⟩
theorem named_nil (nm : List UInt8) (l : List Fld) : namedL nm 0 l = [] ↔ l.any (sameN nm) = false := by
  rw [← List.length_eq_zero_iff, ← values_len]
  unfold valuesL
  rw [List.length_map, List.length_eq_zero_iff, List.filter_eq_nil_iff, List.any_eq_false]
/-- a list of fields that is valid -/
def okF (l : List Fld) : Prop := l.length ≤ 20 ∧ ∀ f ∈ l, madeF f
theorem okF_check {l : List Fld} (h : okF l) : checkL l = (0, 0) := by
  have := h.1
  unfold checkL
  rw [if_neg (by omega)]
  exact firstE_none l (fun f hf => madeF_one f (h.2 f hf))
theorem okF_ask {l : List Fld} (h : okF l) (ns : List (List UInt8)) (hn : ns.all isTok = true) : askL l ns = 0 := by
  unfold askL
  rw [okF_check h, if_neg (by simp), if_pos hn]
theorem okF_flds {l : List Fld} (h : okF l) : fldsOk l := fun f hf => by
  have := madeF_len f (h.2 f hf); omega
theorem okF_drop {l : List Fld} (h : okF l) (ns : List (List UInt8)) : okF (dropL ns l) :=
  ⟨Nat.le_trans (dropL_len ns l) h.1, fun f hf => h.2 f (List.mem_filter.1 hf).1⟩
/-- Put, in plain words -/
def putF (x : Fld) (l : List Fld) : List Fld := if l.any (sameN x.1) then putL x false l else l ++ [x]
theorem putF_mem {x : Fld} {l : List Fld} (hx : madeF x) (h : ∀ f ∈ l, madeF f) : ∀ f ∈ putF x l, madeF f := by
  have key : ∀ d, ∀ f ∈ putL x d l, madeF f := by
    induction l with
    | nil => intro d f hf; simp [putL] at hf
    | cons g r ih =>
      have hr := ih (fun f hf => h f (List.mem_cons_of_mem _ hf))
      intro d f hf
      rw [putL] at hf
      split at hf
      · split at hf
        · exact hr _ f hf
        · rcases List.mem_cons.1 hf with rfl | hf
          · exact hx
          · exact hr _ f hf
      · rcases List.mem_cons.1 hf with rfl | hf
        · exact h f List.mem_cons_self
        · exact hr _ f hf
  unfold putF
  split
  · exact key false
  · intro f hf
    rcases List.mem_append.1 hf with hf | hf
    · exact h f hf
    · simp at hf; subst hf; exact hx
theorem putF_len (x : Fld) (l : List Fld) : (putF x l).length ≤ l.length + 1 := by
  unfold putF
  split
  · have := putL_len x false l; omega
  · simp
theorem put_made {x : Fld} {l : List Fld} (h : okF l) (hx : madeF x) : putR l x = putF x l ∧ putE l x = 0 := by
  have hm : moreE l x = 0 := by unfold moreE; rw [okF_check h]; simp [madeF_one x hx]
  have hl := h.1
  have ha : addE l x = 0 := addE_ok hm (by omega)
  unfold putR putE putF
  rw [if_pos hm, if_pos hm]
  cases hA : l.any (sameN x.1) with
  | true =>
    have hn : ¬ namedL x.1 0 l = [] := fun e => by rw [(named_nil x.1 l).1 e] at hA; simp at hA
    rw [if_neg hn, if_neg hn, if_pos rfl]
    exact ⟨rfl, rfl⟩
  | false =>
    have hn := (named_nil x.1 l).2 hA
    rw [if_pos hn, if_pos hn, if_neg (by simp), ha]
    unfold addL
    rw [ha]
    exact ⟨rfl, rfl⟩
theorem putF_facts (x : Fld) (l : List Fld) : (putF x l).filter (sameN x.1) = [x] ∧ putF x (putF x l) = putF x l ∧ dropL [x.1] (putF x l) = dropL [x.1] l := by
  cases hA : l.any (sameN x.1) with
  | true =>
    obtain ⟨h1, h2⟩ := putL_same x l hA
    have e : putF x l = putL x false l := by unfold putF; rw [if_pos hA]
    rw [e]
    refine ⟨h1, ?_, putL_drop x false l⟩
    have ha : (putL x false l).any (sameN x.1) = true := by
      rw [List.any_eq_true]
      have : x ∈ (putL x false l).filter (sameN x.1) := by rw [h1]; simp
      exact ⟨x, (List.mem_filter.1 this).1, sameN_self x⟩
    unfold putF
    rw [if_pos ha, h2]
  | false =>
    have e : putF x l = l ++ [x] := by unfold putF; rw [if_neg (by rw [hA]; simp)]
    have hn : l.filter (sameN x.1) = [] := by
      rw [List.filter_eq_nil_iff]
      intro f hf
      rw [List.any_eq_false] at hA
      exact hA f hf
    rw [e]
    refine ⟨by rw [List.filter_append, hn]; simp [sameN_self], ?_, ?_⟩
    · unfold putF
      rw [if_pos (by simp [sameN_self]), putL_app, putL_none x false l hA, sameN_self, hA]
      rfl
    · rw [dropL_app, goneF_one, sameN_self]
      simp
theorem drop_len_one (nm : List UInt8) (l : List Fld) : (dropL [nm] l).length + (l.filter (sameN nm)).length = l.length := by
  induction l with
  | nil => rfl
  | cons f r ih =>
    have e1 : dropL [nm] (f :: r) = if sameN nm f then dropL [nm] r else f :: dropL [nm] r := by
      unfold dropL; rw [List.filter_cons, goneF_one]; cases sameN nm f <;> rfl
    rw [e1, List.filter_cons]
    cases sameN nm f
    · simp; omega
    · simp; omega
end Go.Proofs.YtpdohlnobbimaaaDoor
