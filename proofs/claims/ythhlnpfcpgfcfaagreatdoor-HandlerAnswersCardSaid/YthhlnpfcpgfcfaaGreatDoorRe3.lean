/-
  Responses in plain words: the lines of a response, one behind the other. No program in sight.
-/
import Derived.Test.YthhlnpfcpgfcfaaGreatDoorRe2
namespace Go.Proofs.YthhlnpfcpgfcfaaGreatDoor
open Go.RowKit

/-- the lines of a response in front of its empty line -/
def linesR (r : Rsp) : List (List UInt8) := firstR r.code :: (r.flds.map fun f => f.1 ++ 58 :: 32 :: f.2) ++ [lenR r.body.length] ++ (if r.close then [closeR] else [])
/-- lines with their ends -/
def endsR (L : List (List UInt8)) : List UInt8 := L.flatMap fun l => l ++ [13, 10]
theorem endsR_app (L M : List (List UInt8)) : endsR (L ++ M) = endsR L ++ endsR M := by simp [endsR]
theorem text_lines (r : Rsp) : textR r = endsR (linesR r) ++ [13, 10] ++ (if r.head then [] else r.body) := by
  have e : ∀ l : List (List UInt8 × List UInt8), l.flatMap fldR = endsR (l.map fun f => f.1 ++ 58 :: 32 :: f.2) := by
    intro l
    induction l with
    | nil => rfl
    | cons f l ih => rw [List.flatMap_cons, ih]; simp [endsR, fldR]
  unfold textR headR linesR
  rw [e]
  cases r.close <;> simp [endsR]
/-- a line of a field: a name, a colon, a space -/
def NamedL (l : List UInt8) : Prop := ∃ n v, l = n ++ 58 :: 32 :: v ∧ n ≠ [] ∧ ∀ b ∈ n, 33 ≤ b.toNat ∧ b.toNat ≤ 126 ∧ b ≠ 58
/-- a line that may be sent -/
def SafeL (l : List UInt8) : Prop := l ≠ [] ∧ ∀ b ∈ l, 32 ≤ b.toNat ∧ b.toNat ≤ 126
theorem tokP_named {b : UInt8} (h : tokP b.toNat = true) : 33 ≤ b.toNat ∧ b.toNat ≤ 126 ∧ b ≠ 58 := by
  have hall : ∀ k : Fin 256, tokP k.val = true → 33 ≤ k.val ∧ k.val ≤ 126 ∧ k.val ≠ 58 := by decide +kernel
  have hb : b.toNat < 256 := b.toNat_lt
  have := hall ⟨b.toNat, hb⟩ h
  refine ⟨this.1, this.2.1, ?_⟩
  rintro rfl
  exact this.2.2 rfl
theorem may_tok {f : List UInt8 × List UInt8} (h : mayR f = 0) : isTok f.1 = true ∧ ∀ b ∈ f.2, 32 ≤ b.toNat ∧ b.toNat ≤ 126 := by
  unfold mayR at h
  split at h
  · cases h
  · rename_i h1
    split at h
    · cases h
    · split at h
      · cases h
      · rename_i h3
        refine ⟨?_, fun b hb => ?_⟩
        · cases hk : isTok f.1 with
          | true => rfl
          | false => exact absurd (.inl hk) h1
        · have ha : ¬ (f.2.any fun b => decide (b.toNat < 32) || decide (126 < b.toNat)) = true := fun e => h3 (.inr (.inr e))
          simp only [List.any_eq_true, not_exists, not_and, Bool.or_eq_true, decide_eq_true_eq, not_or] at ha
          have := ha b hb
          omega
theorem first_ok : ∀ x ∈ codesR, firstR (x.1 : Int) ≠ [] ∧ ∀ b ∈ firstR (x.1 : Int), 32 ≤ b.toNat ∧ b.toNat ≤ 126 := by decide +kernel
theorem lenR_ok (n : Nat) : SafeL (lenR n) ∧ NamedL (lenR n) := by
  refine ⟨⟨by simp [lenR], fun b hb => ?_⟩, ⟨[67, 111, 110, 116, 101, 110, 116, 45, 76, 101, 110, 103, 116, 104], Lib.decDigits n, by simp [lenR], by decide, by decide⟩⟩
  unfold lenR at hb
  rcases List.mem_append.1 hb with h | h
  · exact (show ∀ b ∈ ([67, 111, 110, 116, 101, 110, 116, 45, 76, 101, 110, 103, 116, 104, 58, 32] : List UInt8), 32 ≤ b.toNat ∧ b.toNat ≤ 126 by decide) b h
  · have := dec_bytes n b h; omega
theorem close_ok : SafeL closeR ∧ NamedL closeR := by
  refine ⟨⟨by decide, by decide⟩, ⟨[67, 111, 110, 110, 101, 99, 116, 105, 111, 110], [99, 108, 111, 115, 101], rfl, by decide, by decide⟩⟩
theorem fld_ok {f : List UInt8 × List UInt8} (h : mayR f = 0) : SafeL (f.1 ++ 58 :: 32 :: f.2) ∧ NamedL (f.1 ++ 58 :: 32 :: f.2) := by
  obtain ⟨h1, h2⟩ := may_tok h
  unfold isTok at h1
  simp only [Bool.and_eq_true, List.all_eq_true, Bool.not_eq_true', List.isEmpty_eq_false_iff] at h1
  refine ⟨⟨by simp, fun b hb => ?_⟩, ⟨f.1, f.2, rfl, h1.1, fun b hb => tokP_named (h1.2 b hb)⟩⟩
  rcases List.mem_append.1 hb with hb | hb
  · have := tokP_named (h1.2 b hb); omega
  · simp only [List.mem_cons] at hb
    rcases hb with rfl | rfl | hb
    · decide
    · decide
    · exact h2 b hb
/-- all lines may be sent; behind the first one each has a name -/
theorem lines_ok {r : Rsp} (h : checkR r = 0) : (∀ l ∈ linesR r, SafeL l) ∧ (∀ k (hk : k < (linesR r).length), 0 < k → NamedL (linesR r)[k]) ∧ 2 ≤ (linesR r).length ∧ (linesR r).length ≤ r.flds.length + 3 := by
  obtain ⟨⟨x, hx, hxc⟩, _, hm, _⟩ := check_ok h
  have hT : ∀ l ∈ (r.flds.map fun f => f.1 ++ 58 :: 32 :: f.2) ++ [lenR r.body.length] ++ (if r.close then [closeR] else []), SafeL l ∧ NamedL l := by
    intro l hl
    rcases List.mem_append.1 hl with hl | hl
    · rcases List.mem_append.1 hl with hl | hl
      · obtain ⟨f, hf, rfl⟩ := List.mem_map.1 hl
        exact fld_ok (hm f hf)
      · rw [List.mem_singleton.1 hl]; exact lenR_ok _
    · cases hc : r.close with
      | false => rw [hc] at hl; simp at hl
      | true =>
        rw [hc] at hl
        have hl2 : l = closeR := by simpa using hl
        rw [hl2]; exact close_ok
  have eL : linesR r = firstR r.code :: ((r.flds.map fun f => f.1 ++ 58 :: 32 :: f.2) ++ [lenR r.body.length] ++ (if r.close then [closeR] else [])) := by simp [linesR]
  refine ⟨fun l hl => ?_, fun k hk h0 => ?_, ?_, ?_⟩
  · rw [eL] at hl
    rcases List.mem_cons.1 hl with hl | hl
    · rw [hl, ← hxc]; exact first_ok x hx
    · exact (hT l hl).1
  · cases k with
    | zero => omega
    | succ k =>
      have hk2 := hk
      rw [eL] at hk2
      have : (linesR r)[k + 1] ∈ ((r.flds.map fun f => f.1 ++ 58 :: 32 :: f.2) ++ [lenR r.body.length] ++ (if r.close then [closeR] else [])) := by
        simp only [eL, List.getElem_cons_succ]
        exact List.getElem_mem _
      exact (hT _ this).2
  · rw [eL]; simp; omega
  · rw [eL]
    cases r.close <;> simp
/-- where line k begins -/
def offR (L : List (List UInt8)) (k : Nat) : Nat := (endsR (L.take k)).length
theorem offR_succ (L : List (List UInt8)) (k : Nat) (h : k < L.length) : offR L (k + 1) = offR L k + L[k].length + 2 := by
  unfold offR
  rw [List.take_succ_eq_append_getElem h, endsR_app, List.length_append]
  simp [endsR]; omega
/-- what stands at an offset: a line, its end -/
theorem at_line (L : List (List UInt8)) (t : List UInt8) (k : Nat) (h : k < L.length) : (endsR L ++ t).drop (offR L k) = L[k] ++ 13 :: 10 :: (endsR (L.drop (k + 1)) ++ t) := by
  have e : L = L.take k ++ (L[k] :: L.drop (k + 1)) := by rw [← List.drop_eq_getElem_cons h, List.take_append_drop]
  have e2 : endsR L = endsR (L.take k) ++ (L[k] ++ [13, 10] ++ endsR (L.drop (k + 1))) := by
    have : endsR (L.take k ++ (L[k] :: L.drop (k + 1))) = endsR (L.take k) ++ (L[k] ++ [13, 10] ++ endsR (L.drop (k + 1))) := by
      rw [endsR_app]
      rfl
    rw [← this, ← e]
  rw [e2, List.append_assoc]
  unfold offR
  rw [List.drop_left]
  simp
theorem at_end (L : List (List UInt8)) (t : List UInt8) : (endsR L ++ t).drop (offR L L.length) = t := by
  unfold offR
  rw [List.take_length, List.drop_left]
theorem get_drop {l m : List UInt8} {o i : Nat} (h : l.drop o = m) : l[o + i]? = m[i]? := by rw [← h, List.getElem?_drop]
end Go.Proofs.YthhlnpfcpgfcfaaGreatDoor
