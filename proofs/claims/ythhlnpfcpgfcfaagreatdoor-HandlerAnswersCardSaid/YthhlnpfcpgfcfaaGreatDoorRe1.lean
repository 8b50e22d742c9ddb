/-
  Responses in plain words: what is written is read back.
-/
import Derived.Test.YthhlnpfcpgfcfaaGreatDoorRe0
namespace Go.Proofs.YthhlnpfcpgfcfaaGreatDoor
open Go.RowKit

theorem dec_bytes (n : Nat) : ∀ b ∈ Lib.decDigits n, 48 ≤ b.toNat ∧ b.toNat ≤ 57 := by
  induction n using Nat.strongRecOn with
  | ind n ih =>
    intro b hb
    rw [Lib.decDigits] at hb
    split at hb
    · rw [List.mem_singleton.1 hb, UInt8.toNat_ofNat']; omega
    · rcases List.mem_append.1 hb with h | h
      · exact ih (n / 10) (by omega) b h
      · rw [List.mem_singleton.1 h, UInt8.toNat_ofNat']; omega
theorem lenR_13 (n : Nat) : ∀ b ∈ lenR n, b ≠ 13 := by
  intro b hb
  unfold lenR at hb
  rcases List.mem_append.1 hb with h | h
  · exact (show ∀ b ∈ ([67, 111, 110, 116, 101, 110, 116, 45, 76, 101, 110, 103, 116, 104, 58, 32] : List UInt8), b ≠ 13 by decide) b h
  · intro e; have := dec_bytes n b h; rw [e] at this; simp at this
theorem codes_ok : ∀ x ∈ codesR, codeP (firstR (x.1 : Int)) = some (x.1 : Int) ∧ reasonR (x.1 : Int) = some x.2 ∧ ∀ b ∈ firstR (x.1 : Int), b ≠ 13 := by decide +kernel
theorem reason_mem {c : Int} (h : reasonR c ≠ none) : ∃ x ∈ codesR, (x.1 : Int) = c := by
  unfold reasonR at h
  cases hf : codesR.find? fun x => (x.1 : Int) == c with
  | none => rw [hf] at h; exact absurd rfl h
  | some x => exact ⟨x, List.mem_of_find?_eq_some hf, by have := List.find?_some hf; simpa using this⟩
theorem tokP_not {b : UInt8} (h : tokP b.toNat = true) : b ≠ 58 ∧ b ≠ 13 := by
  constructor <;> (rintro rfl; revert h; decide)
theorem may_ok {f : List UInt8 × List UInt8} (h : mayR f = 0) : (∀ b ∈ f.1, b ≠ 58 ∧ b ≠ 13) ∧ (∀ b ∈ f.2, b ≠ 13 ∧ b ≠ 10 ∧ b ≠ 0) := by
  unfold mayR at h
  split at h
  · cases h
  · rename_i h1
    split at h
    · cases h
    · split at h
      · cases h
      · rename_i h3
        refine ⟨fun b hb => ?_, fun b hb => ?_⟩
        · have ht : isTok f.1 = true := by
            cases hk : isTok f.1 with
            | true => rfl
            | false => exact absurd (.inl hk) h1
          unfold isTok at ht
          simp only [Bool.and_eq_true, List.all_eq_true] at ht
          exact tokP_not (ht.2 b hb)
        · have ha : ¬ (f.2.any fun b => decide (b.toNat < 32) || decide (126 < b.toNat)) = true := fun e => h3 (.inr (.inr e))
          simp only [List.any_eq_true, not_exists, not_and, Bool.or_eq_true, decide_eq_true_eq, not_or] at ha
          have := ha b hb
          refine ⟨?_, ?_, ?_⟩ <;> (rintro rfl; simp at this)
theorem mayAll_ok {l : List (List UInt8 × List UInt8)} (h : mayAllR l = 0) : ∀ f ∈ l, mayR f = 0 := by
  induction l with
  | nil => intro f hf; cases hf
  | cons g l ih =>
    unfold mayAllR at h
    split at h
    · rename_i hg
      intro f hf
      rcases List.mem_cons.1 hf with rfl | hf
      · exact hg
      · exact ih h f hf
    · rename_i hg; exact absurd h hg
theorem check_ok {r : Rsp} (h : checkR r = 0) : (∃ x ∈ codesR, (x.1 : Int) = r.code) ∧ r.flds.length ≤ 32 ∧ (∀ f ∈ r.flds, mayR f = 0) ∧ r.body.length ≤ 4096 := by
  unfold checkR at h
  split at h
  · cases h
  · rename_i h1
    split at h
    · cases h
    · split at h
      · rename_i h3; exact absurd h h3
      · split at h
        · cases h
        · rename_i h2 h3 h4
          exact ⟨reason_mem h1, by omega, mayAll_ok (by omega), by omega⟩
theorem noFld_len (n : Nat) (s : List UInt8) : NoFld (lenR n ++ 13 :: 10 :: s) := by
  intro l r f hl hc
  rw [lineP_line _ _ (lenR_13 n)] at hl
  injection hl with hl
  injection hl with hl1 hl2
  subst hl1
  have e : lenR n = [67, 111, 110, 116, 101, 110, 116, 45, 76, 101, 110, 103, 116, 104] ++ 58 :: 32 :: Lib.decDigits n := by simp [lenR]
  rw [e, cutP_line _ _ (by decide)] at hc
  injection hc with hc
  subst hc
  unfold mayR
  rw [if_pos (.inr (.inr (show ownR [67, 111, 110, 116, 101, 110, 116, 45, 76, 101, 110, 103, 116, 104] = true by decide)))]
  decide
/-- what stands behind the line of the length -/
def endP (h : Bool) (c : Int) (fs : List (List UInt8 × List UInt8)) (n : Nat) (cl : Bool) (r : List UInt8) : Option (Rsp × List UInt8) :=
  if h then some (⟨c, fs, [], cl, true⟩, r) else if r.length < n then none else some (⟨c, fs, r.take n, cl, false⟩, r.drop n)
def tailP (h : Bool) (c : Int) (fs : List (List UInt8 × List UInt8)) (n : Nat) (s : List UInt8) : Option (Rsp × List UInt8) :=
  match lineP s with
  | none => none
  | some (l, r) =>
    if l = closeR then
      match lineP r with
      | none => none
      | some (l2, r2) => if l2 = [] then endP h c fs n true r2 else none
    else if l = [] then endP h c fs n false r else none
def parseR (h : Bool) (s : List UInt8) : Option (Rsp × List UInt8) :=
  match lineP s with
  | none => none
  | some (l1, r1) =>
    match codeP l1 with
    | none => none
    | some c =>
      match lineP (fldsP 32 r1).2 with
      | none => none
      | some (l3, r3) =>
        match lenP l3 with
        | none => none
        | some n => tailP h c (fldsP 32 r1).1 n r3
theorem parse_text (r : Rsp) (hc : checkR r = 0) (more : List UInt8) : parseR r.head (textR r ++ more) = some ({ r with body := if r.head then [] else r.body }, more) := by
  obtain ⟨⟨x, hx, hxc⟩, hf, hm, hb⟩ := check_ok hc
  obtain ⟨c1, c2, c3⟩ := codes_ok x hx
  rw [hxc] at c1 c3
  obtain ⟨code, flds, body, close, head⟩ := r
  simp only at *
  have e1 : textR ⟨code, flds, body, close, head⟩ ++ more = firstR code ++ 13 :: 10 :: (flds.flatMap fldR ++ (lenR body.length ++ 13 :: 10 :: ((if close then closeR ++ [13, 10] else []) ++ 13 :: 10 :: ((if head then [] else body) ++ more)))) := by
    simp [textR, headR]
  unfold parseR
  rw [e1, lineP_line _ _ c3]
  simp only
  rw [c1]
  simp only
  rw [fldsP_text flds _ (noFld_len _ _) (fun f hf => ⟨hm f hf, (may_ok (hm f hf)).1, fun b hb => ((may_ok (hm f hf)).2 b hb).1⟩) 32 hf]
  simp only
  rw [lineP_line _ _ (lenR_13 _)]
  simp only
  rw [lenP_len _ hb]
  simp only
  have hE : ∀ cl, endP head code flds body.length cl ((if head then [] else body) ++ more) = some (⟨code, flds, if head then [] else body, cl, head⟩, more) := by
    intro cl
    unfold endP
    cases head with
    | true => simp
    | false => simp
  unfold tailP
  cases close with
  | true =>
    have e2 : (if true = true then closeR ++ [13, 10] else []) ++ 13 :: 10 :: ((if head then [] else body) ++ more) = closeR ++ 13 :: 10 :: ([] ++ 13 :: 10 :: ((if head then [] else body) ++ more)) := by simp
    rw [e2, lineP_line _ _ (by decide)]
    simp only
    rw [if_pos trivial, lineP_line [] _ (by simp)]
    simp only
    rw [if_pos trivial, hE]
  | false =>
    have e2 : (if false = true then closeR ++ [13, 10] else []) ++ 13 :: 10 :: ((if head then [] else body) ++ more) = [] ++ 13 :: 10 :: ((if head then [] else body) ++ more) := by simp
    rw [e2, lineP_line [] _ (by simp)]
    simp only
    rw [if_neg (by decide), if_pos trivial, hE]
end Go.Proofs.YthhlnpfcpgfcfaaGreatDoor
