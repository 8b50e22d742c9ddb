/-
  Plain facts on texts: cutting at one byte, trimming blanks at both ends. No program in sight.
-/
import Derived.Lib.SplitLaws
import Derived.Lib.SlTrimSet
namespace Go.Proofs.YthhlnpfcpgfcfaaGreatDoor

/-- a text cut at each byte c -/
def splitC (c : UInt8) : List UInt8 → List (List UInt8)
  | [] => [[]]
  | b :: l => if b = c then [] :: splitC c l else match splitC c l with
    | [] => [[b]]
    | h :: t => (b :: h) :: t
theorem splitC_ne (c : UInt8) (l : List UInt8) : splitC c l ≠ [] := by
  cases l with
  | nil => simp [splitC]
  | cons b l =>
    unfold splitC
    split
    · simp
    · split <;> simp
theorem splitC_step (c b : UInt8) (l h : List UInt8) (t : List (List UInt8)) (hb : b ≠ c) (e : splitC c l = h :: t) : splitC c (b :: l) = (b :: h) :: t := by
  rw [splitC, if_neg hb, e]
theorem splitK_eq (c : UInt8) : ∀ l : List UInt8, Lib.splitK [c] 0 (Lib.count l [c]) l = splitC c l
  | [] => by rw [Lib.count_miss (by simp [Lib.index])]; rfl
  | b :: l => by
    have ih := splitK_eq c l
    by_cases h : b = c
    · subst h
      have hix : Lib.index (b :: l) [b] = ((0 : Nat) : Int) := by rw [Lib.index]; simp [List.isPrefixOf]
      rw [Lib.count_cons_eq, Nat.add_comm, splitC, if_pos rfl, ← ih, Lib.splitK, hix, if_neg (by decide)]
      rfl
    · have hp : ([c] : List UInt8).isPrefixOf (b :: l) = false := by simp [List.isPrefixOf, Ne.symm h]
      have hix : Lib.index (b :: l) [c] = if Lib.index l [c] == -1 then -1 else Lib.index l [c] + 1 := by rw [Lib.index, hp]; simp
      rw [Lib.count_cons_ne b c l h]
      by_cases hm : Lib.index l [c] = -1
      · rw [Lib.count_miss hm] at ih ⊢
        exact (splitC_step c b l l [] h ih.symm).symm
      · have hge := Lib.index_ge l [c]
        obtain ⟨j, hj⟩ : ∃ j : Nat, Lib.index l [c] = j := ⟨(Lib.index l [c]).toNat, by omega⟩
        have hix' : Lib.index (b :: l) [c] = ((j + 1 : Nat) : Int) := by rw [hix, if_neg (fun e => hm (beq_iff_eq.1 e)), hj]; omega
        rw [Lib.count_hit (by simp) hj] at ih ⊢
        rw [Nat.add_comm] at ih ⊢
        rw [Lib.splitK, hj, if_neg (by simp)] at ih
        rw [Lib.splitK, hix', if_neg (by simp; omega), splitC_step c b l _ _ h ih.symm]
        rfl
/-- the pieces of the library's cut at one byte -/
theorem pieces (s : ByteArray) (c : UInt8) : (Lib.splitB ⟨#[c]⟩ 0 (Lib.countB s ⟨#[c]⟩) s).map (·.data.toList) = splitC c s.data.toList := by
  rw [Lib.splitB_data]
  exact splitK_eq c s.data.toList
theorem splitC_len (c : UInt8) : ∀ l : List UInt8, (splitC c l).length ≤ l.length + 1 ∧ ∀ x ∈ splitC c l, x.length ≤ l.length
  | [] => by simp [splitC]
  | b :: l => by
    obtain ⟨h1, h2⟩ := splitC_len c l
    unfold splitC
    split
    · refine ⟨by simpa using h1, fun x hx => ?_⟩
      rcases List.mem_cons.1 hx with rfl | hx
      · simp
      · have := h2 x hx; simp; omega
    · split
      · simp
      · rename_i h t e
        rw [e] at h1 h2
        refine ⟨by simp at h1 ⊢; omega, fun x hx => ?_⟩
        rcases List.mem_cons.1 hx with rfl | hx
        · have := h2 h (by simp); simp; omega
        · have := h2 x (by simp [hx]); simp; omega

/-- a blank -/
def isB (b : UInt8) : Bool := b == 32 || b == 9
/-- a text without blanks at both ends -/
def trimL (l : List UInt8) : List UInt8 := ((l.reverse.dropWhile isB).reverse).dropWhile isB
theorem dropWhile_le' (p : UInt8 → Bool) (l : List UInt8) : (l.dropWhile p).length ≤ l.length := by
  induction l with
  | nil => simp
  | cons a l ih => rw [List.dropWhile_cons]; split <;> simp <;> omega
theorem trimL_le (l : List UInt8) : (trimL l).length ≤ l.length := by
  unfold trimL
  refine Nat.le_trans (dropWhile_le' _ _) ?_
  rw [List.length_reverse]
  refine Nat.le_trans (dropWhile_le' _ _) ?_
  simp
theorem trimS_eq (l : List UInt8) : Lib.trimS l [32, 9] = trimL l := by
  have e : (fun b : UInt8 => ([32, 9] : List UInt8).contains b) = isB := by
    funext b
    simp [isB, List.contains, List.elem]
    cases (b == 32) <;> cases (b == 9) <;> rfl
  unfold Lib.trimS Lib.trimLeftS Lib.trimRightS trimL
  rw [e]
/-- a text without blanks at its end -/
def trimR (l : List UInt8) : List UInt8 := (l.reverse.dropWhile isB).reverse
theorem dropWhile_snoc (p : UInt8 → Bool) (l : List UInt8) (b : UInt8) : (l ++ [b]).dropWhile p = if l.dropWhile p = [] then (if p b then [] else [b]) else l.dropWhile p ++ [b] := by
  induction l with
  | nil => simp [List.dropWhile]; cases p b <;> rfl
  | cons a l ih =>
    rw [List.cons_append, List.dropWhile_cons, List.dropWhile_cons]
    split
    · exact ih
    · simp
theorem trimR_cons (b : UInt8) (l : List UInt8) : trimR (b :: l) = if trimR l = [] then (if isB b then [] else [b]) else b :: trimR l := by
  unfold trimR
  rw [List.reverse_cons, dropWhile_snoc]
  simp only [List.reverse_eq_nil_iff]
  split
  · split <;> simp
  · simp
theorem trimR_nil : trimR [] = [] := rfl
theorem trimL_comm (l : List UInt8) : trimL l = trimR (l.dropWhile isB) := by
  show (trimR l).dropWhile isB = _
  induction l with
  | nil => rfl
  | cons b l ih =>
    rw [trimR_cons, List.dropWhile_cons]
    by_cases hb : isB b = true
    · rw [if_pos hb, if_pos hb, ← ih]
      split
      · rename_i h; rw [h]
      · rw [List.dropWhile_cons, if_pos hb]
    · rw [if_neg hb, if_neg hb, trimR_cons, if_neg hb]
      split
      · rw [List.dropWhile_cons, if_neg hb]
      · rw [List.dropWhile_cons, if_neg hb]
end Go.Proofs.YthhlnpfcpgfcfaaGreatDoor
