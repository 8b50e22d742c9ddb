/-
  Framing in plain words: lengths of bodies, chunks, and which body a request has. No program in sight. Framing in plain words: the order of fields, equal lengths, what is written and read back. No program in sight. A loop that cuts a text at each byte of one kind: its state, in plain words. No program in sight. waypostkit.SameInts at two equal lists of numbers. The numbers of lengths: number of the reference, length of the program. The values of a name, and whether a body comes in chunks: the program and the reference. The lengths of a request, by the reference. The lengths of a request, by the program: a range over strings.SplitSeq in a loop.
-/
import Derived.Test.YtencphfhpnljlaaGreatDoorWd
import Derived.Test.YtencphfhpnljlaaGreatDoorWb1
import Derived.Test.YtencphfhpnljlaaGreatDoorShelfN
import Derived.Lib.AtoiErrMem
import Derived.Test.YtencphfhpnljlaaGreatDoorWc
namespace Go.Proofs.YtencphfhpnljlaaGreatDoor

section
open Go.RowKit

/-- Content-Length, Transfer-Encoding, chunked -/
def clN : List UInt8 := [67, 111, 110, 116, 101, 110, 116, 45, 76, 101, 110, 103, 116, 104]
def teN : List UInt8 := [84, 114, 97, 110, 115, 102, 101, 114, 45, 69, 110, 99, 111, 100, 105, 110, 103]
def ckN : List UInt8 := [99, 104, 117, 110, 107, 101, 100]
def digB (b : UInt8) : Bool := decide (48 ≤ b.toNat) && decide (b.toNat ≤ 57)
def decV (l : List UInt8) : Nat := l.foldl (fun a b => 10 * a + (b.toNat - 48)) 0
/-- the number of one length: 1 to 9 digits -/
def lenE (l : List UInt8) : Option Nat := if (decide (1 ≤ l.length) && decide (l.length ≤ 9) && l.all digB) = true then some (decV l) else none
/-- what stands between the commas of values -/
def piecesL (V : List (List UInt8)) : List (List UInt8) := V.flatMap (splitC 44)
def badL (x : List UInt8) : Bool := (lenE (trimL x)).isNone
def pickL (x : List UInt8) : Option Nat := lenE (trimL x)
/-- all lengths, or the error -/
def lensP (P : List (List UInt8)) : List Nat × Nat := if P.any badL then ([], 3) else (P.filterMap pickL, 0)
def lensT (V : List (List UInt8)) : List Nat × Nat := lensP (piecesL V)
/-- whether a body comes in chunks, or the error -/
def chunkT : List (List UInt8) → Bool × Nat
  | [] => (false, 0)
  | [v] => if lowL v == ckN then (true, 0) else (false, 3)
  | _ => (false, 3)
/-- kind, length, status -/
def ofP (L : List Nat) (e : Nat) (c : Bool) (f : Nat) : Nat × Nat × Nat :=
  if e ≠ 0 ∨ f ≠ 0 ∨ (c = true ∧ L ≠ []) then (0, 0, 400)
  else if L.any (fun n => n != L.headD 0) then (0, 0, 400)
  else if c then (3, 0, 0)
  else if L = [] then (1, 0, 0)
  else if 2048 < L.headD 0 then (0, 0, 413)
  else (2, L.headD 0, 0)
def ofT (l : List Fld) : Nat × Nat × Nat := ofP (lensT (valuesL clN l)).1 (lensT (valuesL clN l)).2 (chunkT (valuesL teN l)).1 (chunkT (valuesL teN l)).2

theorem decV_snoc (l : List UInt8) (b : UInt8) : decV (l ++ [b]) = 10 * decV l + (b.toNat - 48) := by simp [decV]
theorem decV_lt (l : List UInt8) (h : l.all digB = true) : decV l < 10 ^ l.length := by
  have key : ∀ k, k ≤ l.length → decV (l.take k) < 10 ^ k := by
    intro k
    induction k with
    | zero => intro _; simp [decV]
    | succ k ih =>
      intro hk
      have hlt : k < l.length := by omega
      rw [List.take_succ_eq_append_getElem hlt, decV_snoc, Nat.pow_succ]
      have h1 := ih (by omega)
      have h2 := List.all_eq_true.1 h l[k] (List.getElem_mem hlt)
      unfold digB at h2
      simp at h2
      omega
  have := key l.length (Nat.le_refl _)
  rwa [List.take_length] at this
theorem pow10_le {k : Nat} (h : k ≤ 9) : 10 ^ k ≤ 1000000000 := Nat.pow_le_pow_right (n := 10) (by omega) h
theorem lenE_some {l : List UInt8} {n : Nat} (h : lenE l = some n) : 1 ≤ l.length ∧ l.length ≤ 9 ∧ l.all digB = true ∧ n = decV l ∧ n < 1000000000 := by
  unfold lenE at h
  split at h
  · rename_i hc
    injection h with h
    simp only [Bool.and_eq_true, decide_eq_true_eq] at hc
    obtain ⟨⟨h1, h2⟩, h3⟩ := hc
    have := decV_lt l h3
    have := pow10_le h2
    exact ⟨h1, h2, h3, h.symm, by omega⟩
  · simp at h
theorem lenE_of {l : List UInt8} (h1 : 1 ≤ l.length) (h2 : l.length ≤ 9) (h3 : l.all digB = true) : lenE l = some (decV l) := by
  unfold lenE; rw [if_pos (by simp [h1, h2, h3])]
theorem lenE_none {l : List UInt8} (h : ¬ (1 ≤ l.length ∧ l.length ≤ 9 ∧ l.all digB = true)) : lenE l = none := by
  unfold lenE
  rw [if_neg]
  intro hc
  simp only [Bool.and_eq_true, decide_eq_true_eq] at hc
  exact h ⟨hc.1.1, hc.1.2, hc.2⟩
theorem pickL_lt {x : List UInt8} {n : Nat} (h : pickL x = some n) : n < 1000000000 := (lenE_some h).2.2.2.2
theorem lensP_len (P : List (List UInt8)) : (lensP P).1.length ≤ P.length ∧ ∀ n ∈ (lensP P).1, n < 1000000000 := by
  unfold lensP
  split
  · simp
  · refine ⟨List.length_filterMap_le _ _, fun n hn => ?_⟩
    obtain ⟨x, _, hx⟩ := List.mem_filterMap.1 hn
    exact pickL_lt hx
theorem pick_all {P : List (List UInt8)} (h : P.any badL = false) : (P.filterMap pickL).length = P.length := by
  induction P with
  | nil => rfl
  | cons x P ih =>
    rw [List.any_cons, Bool.or_eq_false_iff] at h
    unfold badL at h
    rw [List.filterMap_cons]
    cases hx : pickL x with
    | none => unfold pickL at hx; rw [hx] at h; simp at h
    | some n => simp [ih h.2]
theorem pieces_app (V : List (List UInt8)) (v : List UInt8) : piecesL (V ++ [v]) = piecesL V ++ splitC 44 v := by simp [piecesL]
theorem pieces_ne {V : List (List UInt8)} (h : V ≠ []) : piecesL V ≠ [] := by
  cases V with
  | nil => exact absurd rfl h
  | cons v V =>
    unfold piecesL
    rw [List.flatMap_cons]
    intro e
    exact splitC_ne 44 v (List.append_eq_nil_iff.1 e).1
theorem pieces_len (V : List (List UInt8)) (M : Nat) (h : ∀ v ∈ V, v.length ≤ M) : (piecesL V).length ≤ V.length * (M + 1) ∧ ∀ x ∈ piecesL V, x.length ≤ M := by
  induction V with
  | nil => simp [piecesL]
  | cons v V ih =>
    obtain ⟨i1, i2⟩ := ih (fun x hx => h x (List.mem_cons_of_mem _ hx))
    have hv := h v List.mem_cons_self
    obtain ⟨s1, s2⟩ := splitC_len 44 v
    have e : piecesL (v :: V) = splitC 44 v ++ piecesL V := by simp [piecesL]
    rw [e]
    refine ⟨?_, fun x hx => ?_⟩
    · rw [List.length_append, List.length_cons, Nat.succ_mul]
      omega
    · rcases List.mem_append.1 hx with hx | hx
      · exact Nat.le_trans (s2 x hx) hv
      · exact i2 x hx
/-- lengths that are said are numbers -/
theorem lensT_nil {V : List (List UInt8)} (h : (lensT V).2 = 0) : (lensT V).1 = [] ↔ V = [] := by
  constructor
  · intro e
    refine Classical.byContradiction fun hV => ?_
    unfold lensT lensP at e h
    split at h
    · simp at h
    · rename_i hb
      rw [if_neg hb] at e
      have h2 := pick_all (by simpa using hb)
      simp only at e
      rw [e] at h2
      exact pieces_ne hV (List.length_eq_zero_iff.1 h2.symm)
  · rintro rfl
    rfl
end

section
open Go.RowKit

theorem any_ne {L : List Nat} : L.any (fun n => n != L.headD 0) = true ↔ ∃ a ∈ L, ∃ b ∈ L, a ≠ b := by
  constructor
  · intro h
    obtain ⟨a, ha, hn⟩ := List.any_eq_true.1 h
    cases L with
    | nil => simp at ha
    | cons x L => exact ⟨a, ha, x, by simp, by simpa using hn⟩
  · rintro ⟨a, ha, b, hb, hab⟩
    refine Classical.byContradiction fun hc => hab ?_
    have hc' : L.any (fun n => n != L.headD 0) = false := by simpa using hc
    rw [List.any_eq_false] at hc'
    have h1 := hc' a ha
    have h2 := hc' b hb
    simp at h1 h2
    rw [h1, h2]
theorem head_mem {L : List Nat} (h : L ≠ []) : L.headD 0 ∈ L := by
  cases L with
  | nil => exact absurd rfl h
  | cons x L => simp
theorem ofP_mem {L L' : List Nat} (h : ∀ n, n ∈ L ↔ n ∈ L') (e : Nat) (c : Bool) (f : Nat) : ofP L e c f = ofP L' e c f := by
  have h0 : L = [] ↔ L' = [] := by
    constructor
    · rintro rfl
      rw [List.eq_nil_iff_forall_not_mem]
      intro a ha
      have := (h a).2 ha
      simp at this
    · rintro rfl
      rw [List.eq_nil_iff_forall_not_mem]
      intro a ha
      have := (h a).1 ha
      simp at this
  have h1 : L.any (fun n => n != L.headD 0) = L'.any (fun n => n != L'.headD 0) := by
    rw [Bool.eq_iff_iff, any_ne, any_ne]
    simp only [h]
  unfold ofP
  rw [h1]
  by_cases hL : L = []
  · have hL' := h0.1 hL
    subst hL hL'
    rfl
  · have hL' : L' ≠ [] := fun e => hL (h0.2 e)
    cases hA : L'.any (fun n => n != L'.headD 0) with
    | true => simp [hL, hL']
    | false =>
      have e : L.headD 0 = L'.headD 0 := by
        refine Classical.byContradiction fun hne => ?_
        have : L'.any (fun n => n != L'.headD 0) = true := any_ne.2 ⟨L.headD 0, (h _).1 (head_mem hL), L'.headD 0, head_mem hL', hne⟩
        rw [hA] at this
        cases this
      rw [e]
      simp [hL, hL']
theorem pieces_mem {V V' : List (List UInt8)} (h : ∀ v, v ∈ V ↔ v ∈ V') (x : List UInt8) : x ∈ piecesL V ↔ x ∈ piecesL V' := by
  unfold piecesL
  simp only [List.mem_flatMap, h]
theorem any_mem {P P' : List (List UInt8)} (h : ∀ v, v ∈ P ↔ v ∈ P') (p : List UInt8 → Bool) : P.any p = P'.any p := by
  rw [Bool.eq_iff_iff, List.any_eq_true, List.any_eq_true]
  simp only [h]
theorem lensT_mem {V V' : List (List UInt8)} (h : ∀ v, v ∈ V ↔ v ∈ V') : (lensT V).2 = (lensT V').2 ∧ ∀ n, n ∈ (lensT V).1 ↔ n ∈ (lensT V').1 := by
  have hp := pieces_mem h
  have ha := any_mem hp badL
  unfold lensT lensP
  rw [ha]
  split
  · exact ⟨rfl, fun _ => Iff.rfl⟩
  · refine ⟨rfl, fun n => ?_⟩
    simp only [List.mem_filterMap, hp]
theorem chunkT_mem {V V' : List (List UInt8)} (hl : V.length = V'.length) (h : ∀ v, v ∈ V ↔ v ∈ V') : chunkT V = chunkT V' := by
  match V, V', hl with
  | [], [], _ => rfl
  | [v], [v'], _ =>
    have := (h v).1 (by simp)
    simp at this
    rw [this]
  | _ :: _ :: _, _ :: _ :: _, _ => rfl
theorem ofT_mem {l l' : List Fld} (hc : ∀ v, v ∈ valuesL clN l ↔ v ∈ valuesL clN l') (ht : ∀ v, v ∈ valuesL teN l ↔ v ∈ valuesL teN l') (hn : (valuesL teN l).length = (valuesL teN l').length) : ofT l = ofT l' := by
  unfold ofT
  obtain ⟨h1, h2⟩ := lensT_mem hc
  rw [chunkT_mem hn ht, h1]
  exact ofP_mem h2 _ _ _
theorem values_cat (nm : List UInt8) (a b : List Fld) : valuesL nm (a ++ b) = valuesL nm a ++ valuesL nm b := by unfold valuesL; rw [List.filter_append, List.map_append]
theorem values_rev (nm : List UInt8) (a : List Fld) : valuesL nm a.reverse = (valuesL nm a).reverse := by unfold valuesL; rw [List.filter_reverse, List.map_reverse]
theorem ofT_rev (l : List Fld) : ofT l.reverse = ofT l :=
  ofT_mem (fun v => by rw [values_rev, List.mem_reverse]) (fun v => by rw [values_rev, List.mem_reverse]) (by rw [values_rev, List.length_reverse])
/-- what Of gives is valid, or the zero value and a status -/
theorem ofP_ok (L : List Nat) (e : Nat) (c : Bool) (f : Nat) : (ofP L e c f).2.2 = 0 ∧ (((ofP L e c f).1 = 1 ∨ (ofP L e c f).1 = 3) ∧ (ofP L e c f).2.1 = 0 ∨ (ofP L e c f).1 = 2 ∧ (ofP L e c f).2.1 ≤ 2048) ∨ ((ofP L e c f).2.2 = 400 ∨ (ofP L e c f).2.2 = 413) ∧ (ofP L e c f).1 = 0 ∧ (ofP L e c f).2.1 = 0 := by
  unfold ofP
  split
  · exact .inr ⟨.inl rfl, rfl, rfl⟩
  · split
    · exact .inr ⟨.inl rfl, rfl, rfl⟩
    · split
      · exact .inl ⟨rfl, .inl ⟨.inr rfl, rfl⟩⟩
      · split
        · exact .inl ⟨rfl, .inl ⟨.inl rfl, rfl⟩⟩
        · split
          · exact .inr ⟨.inr rfl, rfl, rfl⟩
          · exact .inl ⟨rfl, .inr ⟨rfl, by simp only; omega⟩⟩
/-- the program's way: one field too many of both kinds is an error of its own -/
theorem ofP_both (l : List Fld) : (valuesL teN l ≠ [] ∧ valuesL clN l ≠ [] ∨ (chunkT (valuesL teN l)).2 ≠ 0 ∨ (lensT (valuesL clN l)).2 ≠ 0) ↔ ((lensT (valuesL clN l)).2 ≠ 0 ∨ (chunkT (valuesL teN l)).2 ≠ 0 ∨ ((chunkT (valuesL teN l)).1 = true ∧ (lensT (valuesL clN l)).1 ≠ [])) := by
  have hc : ∀ V, (chunkT V).2 = 0 → ((chunkT V).1 = true ↔ V ≠ []) := by
    intro V
    match V with
    | [] => simp [chunkT]
    | [v] => by_cases h : (lowL v == ckN) = true <;> simp [chunkT, h]
    | _ :: _ :: _ => simp [chunkT]
  generalize valuesL teN l = T at *
  generalize valuesL clN l = C at *
  by_cases h1 : (lensT C).2 = 0
  · by_cases h2 : (chunkT T).2 = 0
    · have := lensT_nil h1
      have h3 := hc T h2
      rw [h3]
      simp only [h1, h2, ne_eq, not_true_eq_false, false_or, or_false]
      rw [this]
    · simp [h2]
  · simp [h1]
end

section
open Go.RowKit

/-- the pieces done, the piece begun, and what the rest is cut into -/
def joinH (cur : List UInt8) : List (List UInt8) → List (List UInt8)
  | [] => [cur]
  | h :: t => (cur ++ h) :: t
theorem joinH_comma (cur l : List UInt8) (c : UInt8) : joinH cur (splitC c (c :: l)) = cur :: splitC c l := by
  rw [splitC, if_pos rfl]; simp [joinH]
theorem joinH_nil (c : UInt8) (l : List UInt8) : joinH [] (splitC c l) = splitC c l := by
  cases h : splitC c l with
  | nil => exact absurd h (splitC_ne c l)
  | cons a t => rfl
theorem joinH_other (cur l : List UInt8) (b c : UInt8) (hb : b ≠ c) : joinH cur (splitC c (b :: l)) = joinH (cur ++ [b]) (splitC c l) := by
  cases h : splitC c l with
  | nil => exact absurd h (splitC_ne c l)
  | cons a t => rw [splitC_step c b l a t hb h]; simp [joinH]
theorem ext_list (s : ByteArray) (a b : Nat) (_hab : a ≤ b) (_hb : b ≤ s.size) : (s.extract a b).data.toList = (s.data.toList.take b).drop a := by
  rw [Lib.extract_data, List.take_drop]
  try (congr 2; omega)
theorem ext_snoc (s : ByteArray) (a k : Nat) (hab : a ≤ k) (hk : k < s.size) : (s.extract a (k + 1)).data.toList = (s.extract a k).data.toList ++ [s[k]] := by
  have hl : k < s.data.toList.length := by rw [size_l]; exact hk
  rw [ext_list s a (k + 1) (by omega) (by omega), ext_list s a k hab (by omega), List.take_succ_eq_append_getElem hl, List.drop_append_of_le_length (by simp; omega)]
  rfl
theorem drop_list (s : ByteArray) (k : Nat) (hk : k < s.size) : s.data.toList.drop k = s[k] :: s.data.toList.drop (k + 1) := by
  rw [List.drop_eq_getElem_cons (by rw [size_l]; exact hk)]; rfl
/-- the state of the cutting loop -/
def CutInv (c : UInt8) (s : ByteArray) (k fr : Nat) (D : List (List UInt8)) : Prop :=
  (k ≤ s.size ∧ fr ≤ k ∧ splitC c s.data.toList = D ++ joinH (s.extract fr k).data.toList (splitC c (s.data.toList.drop k))) ∨ (k = s.size + 1 ∧ splitC c s.data.toList = D)
theorem CutInv.start (c : UInt8) (s : ByteArray) : CutInv c s 0 0 [] := .inl ⟨Nat.zero_le _, Nat.le_refl _, by
  have : (s.extract 0 0).data.toList = [] := by rw [ext_list s 0 0 (Nat.le_refl _) (Nat.zero_le _)]; rfl
  rw [this, List.nil_append, List.drop_zero, joinH_nil]⟩
theorem CutInv.comma {c : UInt8} {s : ByteArray} {k fr : Nat} {D : List (List UInt8)} (h : CutInv c s k fr D) (hk : k < s.size) (hb : s[k] = c) : CutInv c s (k + 1) (k + 1) (D ++ [(s.extract fr k).data.toList]) := by
  rcases h with ⟨_, hf, h⟩ | ⟨h, _⟩
  · refine .inl ⟨by omega, Nat.le_refl _, ?_⟩
    have e0 : (s.extract (k + 1) (k + 1)).data.toList = [] := by rw [ext_list s _ _ (Nat.le_refl _) (by omega)]; simp
    rw [h, drop_list s k hk, hb, joinH_comma, e0, joinH_nil]
    simp
  · omega
theorem CutInv.other {c : UInt8} {s : ByteArray} {k fr : Nat} {D : List (List UInt8)} (h : CutInv c s k fr D) (hk : k < s.size) (hb : s[k] ≠ c) : CutInv c s (k + 1) fr D := by
  rcases h with ⟨_, hf, h⟩ | ⟨h, _⟩
  · refine .inl ⟨by omega, by omega, ?_⟩
    rw [h, drop_list s k hk, joinH_other _ _ _ _ hb, ext_snoc s fr k hf hk]
  · omega
theorem CutInv.last {c : UInt8} {s : ByteArray} {fr : Nat} {D : List (List UInt8)} (h : CutInv c s s.size fr D) : CutInv c s (s.size + 1) (s.size + 1) (D ++ [(s.extract fr s.size).data.toList]) := by
  rcases h with ⟨_, hf, h⟩ | ⟨h, _⟩
  · refine .inr ⟨rfl, ?_⟩
    rw [h, List.drop_eq_nil_of_le (by rw [size_l]; exact Nat.le_refl _)]
    simp [splitC, joinH]
  · omega
theorem CutInv.done {c : UInt8} {s : ByteArray} {k fr : Nat} {D : List (List UInt8)} (h : CutInv c s k fr D) (hk : s.size < k) : splitC c s.data.toList = D := by
  rcases h with ⟨h1, _⟩ | ⟨_, h⟩
  · omega
  · exact h
theorem CutInv.le {c : UInt8} {s : ByteArray} {k fr : Nat} {D : List (List UInt8)} (h : CutInv c s k fr D) (hk : k ≤ s.size) : fr ≤ k := by
  rcases h with ⟨_, h, _⟩ | ⟨h, _⟩
  · exact h
  · omega
end

section
open Go.RowKit

end

section
open Go.RowKit

theorem dig_yes {b : UInt8} (h1 : 48 ≤ b.toNat) (h2 : b.toNat ≤ 57) : digB b = true := by simp [digB, h1, h2]
theorem dig_no {b : UInt8} (h : b.toNat < 48 ∨ 57 < b.toNat) : digB b = false := by
  unfold digB
  rcases h with h | h
  · rw [decide_eq_false (by omega)]; rfl
  · rw [decide_eq_false (show ¬ b.toNat ≤ 57 by omega), Bool.and_false]
theorem all_no {l : List UInt8} {k : Nat} (hk : k < l.length) (h : digB l[k] = false) : ¬ l.all digB = true := by
  intro ha
  rw [List.all_eq_true.1 ha _ (List.getElem_mem hk)] at h
  cases h
/-- a length, and whether it is one -/
def numV (l : List UInt8) : Nat := (lenE l).getD 0
def numIs (l : List UInt8) : Bool := (lenE l).isSome
theorem num_none {l : List UInt8} (h : ¬ (1 ≤ l.length ∧ l.length ≤ 9 ∧ l.all digB = true)) : numV l = 0 ∧ numIs l = false := by
  unfold numV numIs; rw [lenE_none h]; exact ⟨rfl, rfl⟩
theorem num_some {l : List UInt8} (h1 : 1 ≤ l.length) (h2 : l.length ≤ 9) (h3 : l.all digB = true) : numV l = decV l ∧ numIs l = true := by
  unfold numV numIs; rw [lenE_of h1 h2 h3]; exact ⟨rfl, rfl⟩

set_option maxRecDepth 100000 in
set_option maxHeartbeats 4000000 in
theorem rNumber (s : ByteArray) (w : World) (hs : s.size ≤ 1000000) :
    Calls Tryz.prog 87 #[.string s] w fun e w' => e = .returned (.tuple #[.int .i64 (numV s.data.toList : Int), .bool (numIs s.data.toList)]) ∧ w = w' := by
  by_cases h1 : s.size < 1
  · obtain ⟨e1, e2⟩ := num_none (l := s.data.toList) (by rw [size_l]; omega)
    rw [e1, e2]
    have d1 : decide ((s.size : Int) < 1) = true := by simp; omega
    clear e1 e2
    go_enter Tryz.func87, Tryz.ntmps87
    go_wp2_with fail
    go_ret2
    exact ⟨rfl, rfl⟩
  by_cases h2 : 9 < s.size
  · obtain ⟨e1, e2⟩ := num_none (l := s.data.toList) (by rw [size_l]; omega)
    rw [e1, e2]
    have d1 : decide ((s.size : Int) < 1) = false := by simp; omega
    have d2 : decide ((9 : Int) < (s.size : Int)) = true := by simp; omega
    clear e1 e2
    go_enter Tryz.func87, Tryz.ntmps87
    go_wp2_with fail
    go_ret2
    exact ⟨rfl, rfl⟩
  have d1 : decide ((s.size : Int) < 1) = false := by simp; omega
  have d2 : decide ((9 : Int) < (s.size : Int)) = false := by simp; omega
  obtain ⟨V, hV⟩ : ∃ V, numV s.data.toList = V := ⟨_, rfl⟩
  obtain ⟨B, hB⟩ : ∃ B, numIs s.data.toList = B := ⟨_, rfl⟩
  rw [hV, hB]
  have HV := Lib.hid (And.intro hV hB)
  clear hV hB
  go_enter Tryz.func87, Tryz.ntmps87
  go_wp2_with fail
  go_loop [4, 5] (fun n i => ∃ k D : Nat, i = .int .i64 k ∧ k ≤ s.size ∧ n = .int .i64 (D : Int) ∧ Hid (D = decV (s.data.toList.take k) ∧ (s.data.toList.take k).all digB = true)) (fun _ i => s.size - (intOf i).toNat)
  case atStart => exact ⟨0, 0, rfl, by omega, rfl, hide (by simp [decV])⟩
  case round =>
    obtain ⟨k, D, rfl, hk, rfl, HD⟩ := hrel
    by_cases hlt : k < s.size
    · have hc := s[k].toNat_lt
      have hl : k < s.data.toList.length := by rw [size_l]; exact hlt
      have hg : s.data.toList[k] = s[k] := rfl
      have htk : s.data.toList.take (k + 1) = s.data.toList.take k ++ [s[k]] := by rw [List.take_succ_eq_append_getElem hl, hg]
      have hDl : D < 1000000000 := by
        rw [HD.out.1]
        have := decV_lt _ HD.out.2
        rw [List.length_take] at this
        exact Nat.lt_of_lt_of_le this (pow10_le (by omega))
      have hno := fun h => num_none (l := s.data.toList) (fun hh => all_no hl (dig_no (by rw [hg]; exact h)) hh.2.2)
      have hyes := fun (h : 48 ≤ s[k].toNat ∧ s[k].toNat ≤ 57) => dig_yes h.1 h.2
      have hsn := decV_snoc (s.data.toList.take k) s[k]
      rw [← htk] at hsn
      have hall : (s.data.toList.take k).all digB = true → digB s[k] = true → (s.data.toList.take (k + 1)).all digB = true := by
        intro a b; rw [htk]; simp [a, b]
      have HH := Lib.hid (And.intro hno (And.intro hyes (And.intro hsn hall)))
      clear hno hyes hsn hall htk hg
      obtain ⟨c, hcc⟩ : ∃ c, s[k].toNat = c := ⟨_, rfl⟩
      rw [hcc] at hc HH
      by_cases c1 : c < 48
      · have g1 : decide ((s[k].toNat : Int) < 48) = true := by rw [hcc]; simp; omega
        obtain ⟨e1, e2⟩ := HH.out.1 (.inl c1)
        obtain ⟨f1, f2⟩ := HV.out
        rw [e1] at f1
        rw [e2] at f2
        subst f1 f2
        clear HH e1 e2
        go_wp2_with fail
        go_ret2
        exact ⟨rfl, rfl⟩
      · have g1 : decide ((s[k].toNat : Int) < 48) = false := by rw [hcc]; simp; omega
        by_cases c2 : 57 < c
        · have g2 : decide ((57 : Int) < (s[k].toNat : Int)) = true := by rw [hcc]; simp; omega
          obtain ⟨e1, e2⟩ := HH.out.1 (.inr c2)
          obtain ⟨f1, f2⟩ := HV.out
          rw [e1] at f1
          rw [e2] at f2
          subst f1 f2
          clear HH e1 e2
          go_wp2_with fail
          go_ret2
          exact ⟨rfl, rfl⟩
        · have g2 : decide ((57 : Int) < (s[k].toNat : Int)) = false := by rw [hcc]; simp; omega
          have w1 : IntKind.u8.wrap ((s[k].toNat : Int) - 48) = (s[k].toNat : Int) - 48 := by rw [hcc, IntKind.wrap_u8]; omega
          have w2 : IntKind.i64.wrap ((s[k].toNat : Int) - 48) = (s[k].toNat : Int) - 48 := by rw [hcc, IntKind.wrap_i64]; omega
          have w3 : IntKind.i64.wrap (10 * (D : Int)) = 10 * (D : Int) := by rw [IntKind.wrap_i64]; omega
          have w4 : IntKind.i64.wrap (10 * (D : Int) + ((s[k].toNat : Int) - 48)) = ((10 * D + (c - 48) : Nat) : Int) := by rw [hcc, IntKind.wrap_i64]; omega
          have HN : Hid (10 * D + (c - 48) = decV (s.data.toList.take (k + 1)) ∧ (s.data.toList.take (k + 1)).all digB = true) := by
            refine ⟨?_, HH.out.2.2.2 HD.out.2 (HH.out.2.1 ⟨by omega, by omega⟩)⟩
            rw [HH.out.2.2.1, HD.out.1]
          have he : (10 * (D : Int) + ((c : Int) - 48)) = ((10 * D + (c - 48) : Nat) : Int) := by omega
          generalize 10 * D + (c - 48) = D' at w4 HN he
          have HE := Lib.hid he
          clear he
          clear HH
          go_wp2_with fail
          exact ⟨⟨k + 1, D', by go_num, by omega, by rw [← HE.out], HN⟩, by simp [intOf]; omega⟩
    · have hkl : k = s.size := by omega
      subst hkl
      have hd : decide ((s.size : Int) < (s.size : Int)) = false := by simp
      obtain ⟨f1, f2⟩ := HV.out
      have hD := HD.out
      rw [List.take_of_length_le (by rw [size_l]; omega)] at hD
      obtain ⟨e1, e2⟩ := num_some (l := s.data.toList) (by rw [size_l]; omega) (by rw [size_l]; omega) hD.2
      rw [e1, ← hD.1] at f1
      rw [e2] at f2
      subst f1 f2
      clear hD e1 e2
      go_wp2_with fail
      go_ret2
      exact ⟨rfl, rfl⟩

theorem dec_atoi (l : List UInt8) (h1 : 1 ≤ l.length) (h : l.all digB = true) : Lib.atoi l = some ((decV l : Nat) : Int) := by
  have key : ∀ k, k ≤ l.length → Lib.decFrom 0 (l.take k) = some (decV (l.take k)) := by
    intro k
    induction k with
    | zero => intro _; rfl
    | succ k ih =>
      intro hk
      have hlt : k < l.length := by omega
      have hd := List.all_eq_true.1 h l[k] (List.getElem_mem hlt)
      unfold digB at hd
      simp at hd
      have := Lib.decFrom_take l k 0 _ l[k] (l[k].toNat - 48) (ih (by omega)) (by simp [hlt]) (by unfold Lib.digitVal; rw [if_pos hd])
      rw [this, List.take_succ_eq_append_getElem hlt, decV_snoc]
      congr 1
      omega
  have hk := key l.length (Nat.le_refl _)
  rw [List.take_length] at hk
  cases l with
  | nil => simp at h1
  | cons b r =>
    have hb := List.all_eq_true.1 h b (by simp)
    unfold digB at hb
    simp at hb
    have n1 : (b == 45) = false := beq_eq_false_iff_ne.2 (fun e => by subst e; simp at hb)
    have n2 : (b == 43) = false := beq_eq_false_iff_ne.2 (fun e => by subst e; simp at hb)
    unfold Lib.atoi
    simp only [n1, n2]
    unfold Lib.decNat
    rw [hk]
    rfl
theorem Pred_dig (c : Nat) (w : World) : Calls Tryz.prog 100 #[.int .u8 (c : Int)] w fun e w' => e = .returned (.bool (decide (c < 48) || decide (57 < c))) ∧ w = w' := by
  obtain ⟨R, hR⟩ : ∃ R, (decide (c < 48) || decide (57 < c)) = R := ⟨_, rfl⟩
  rw [hR]
  by_cases c1 : c < 48
  · have g1 : decide ((c : Int) < 48) = true := by simp; omega
    have hr : R = true := by rw [← hR, decide_eq_true c1]; rfl
    subst hr
    clear hR c1
    go_enter Tryz.func100, Tryz.ntmps100
    go_wp2_with fail
    go_ret
    exact ⟨rfl, rfl⟩
  · have g1 : decide ((c : Int) < 48) = false := by simp; omega
    by_cases c2 : 57 < c
    · have g2 : decide ((57 : Int) < (c : Int)) = true := by simp; omega
      have hr : R = true := by rw [← hR, decide_eq_true c2, Bool.or_true]
      subst hr
      clear hR c1 c2
      go_enter Tryz.func100, Tryz.ntmps100
      go_wp2_with fail
      go_ret
      exact ⟨rfl, rfl⟩
    · have g2 : decide ((57 : Int) < (c : Int)) = false := by simp; omega
      have hr : R = false := by rw [← hR, decide_eq_false c2, decide_eq_false c1]; rfl
      subst hr
      clear hR c1 c2
      go_enter Tryz.func100, Tryz.ntmps100
      go_wp2_with fail
      go_ret
      exact ⟨rfl, rfl⟩
/-- slices.IndexFunc at the bytes of a text, with the test for digits -/
theorem IndexDig (g cap : Nat) (s : ByteArray) (w : World) (hs : s.size ≤ 1000000) (hc : ∀ j (h : j < s.size), w.cell? ⟨g, j, none⟩ = some (.int .u8 (s[j].toNat : Int))) :
    Calls Tryz.prog 99 #[.slice (some ⟨g, 0, none⟩) s.size cap, .func (.func 100) #[] #[]] w fun e w' => (∃ r : Int, e = .returned (.int .i64 r) ∧ decide (0 ≤ r) = !s.data.toList.all digB) ∧ w = w' := by
  obtain ⟨R, hR⟩ : ∃ R, s.data.toList.all digB = R := ⟨_, rfl⟩
  rw [hR]
  have HR := Lib.hid hR
  have HC := Lib.hid hc
  have CP := Lib.hid Pred_dig
  clear hc hR
  go_enter Tryz.func99, Tryz.ntmps99
  go_wp2_with fail
  go_loop [8] (fun i => ∃ k : Nat, i = .int .i64 k ∧ k ≤ s.size ∧ Hid ((s.data.toList.take k).all digB = true)) (fun i => s.size - (intOf i).toNat)
  case atStart => exact ⟨0, rfl, by omega, hide (by simp)⟩
  case round =>
    obtain ⟨k, rfl, hk, HD⟩ := hrel
    by_cases hlt : k < s.size
    · have q0 := HC.out k hlt
      obtain ⟨b, hb⟩ : ∃ b, s[k] = b := ⟨_, rfl⟩
      have hl : k < s.data.toList.length := by rw [size_l]; exact hlt
      have hg : s.data.toList[k] = b := hb
      have htk : s.data.toList.take (k + 1) = s.data.toList.take k ++ [b] := by rw [List.take_succ_eq_append_getElem hl, hg]
      rw [hb] at q0
      have cP := CP.out b.toNat
      by_cases hd : 48 ≤ b.toNat ∧ b.toNat ≤ 57
      · have hn : Hid ((s.data.toList.take (k + 1)).all digB = true) := by
          show _ = _
          rw [htk]
          simp [HD.out, dig_yes hd.1 hd.2]
        rw [decide_eq_false (show ¬ b.toNat < 48 by omega), decide_eq_false (show ¬ 57 < b.toNat by omega)] at cP
        have CQ := Lib.hid cP
        clear cP hd htk hg hb hl
        go_wp2_with (go_at_call 100; (with_reducible refine (CQ.out _).mono ?_); rintro e w' ⟨rfl, rfl⟩)
        exact ⟨⟨k + 1, by go_num, by omega, hn⟩, by simp [intOf]; omega⟩
      · have hno : R = false := by
          rw [← HR.out]
          have := all_no hl (by rw [hg]; exact dig_no (by omega))
          cases hx : s.data.toList.all digB
          · rfl
          · exact absurd hx this
        subst hno
        have hor : (decide (b.toNat < 48) || decide (57 < b.toNat)) = true := by
          by_cases h : b.toNat < 48
          · rw [decide_eq_true h]; rfl
          · rw [decide_eq_true (show 57 < b.toNat by omega), Bool.or_true]
        rw [hor] at cP
        have CQ := Lib.hid cP
        clear cP hd htk hg hb hl hor
        go_wp2_with (go_at_call 100; (with_reducible refine (CQ.out _).mono ?_); rintro e w' ⟨rfl, rfl⟩)
        go_ret
        exact ⟨⟨_, rfl, by simp⟩, rfl⟩
    · have hkl : k = s.size := by omega
      subst hkl
      have hd : decide ((s.size : Int) < (s.size : Int)) = false := by simp
      have hD : R = true := by
        have := HD.out
        rw [List.take_of_length_le (by rw [size_l]; omega)] at this
        rw [← HR.out, this]
      subst hD
      go_wp2_with fail
      go_ret
      exact ⟨⟨_, rfl, by simp⟩, rfl⟩

set_option maxRecDepth 100000 in
set_option maxHeartbeats 4000000 in
theorem pLength (s : ByteArray) (w : World) (hs : s.size ≤ 1000000) :
    Calls Tryz.prog 67 #[.string s] w fun e w' => e = .returned (.tuple #[.int .i64 (numV s.data.toList : Int), .bool (numIs s.data.toList)]) ∧ Below w.heap.size w w' := by
  obtain ⟨cap, w1, hr, hb1, hsz, hbi, hfz⟩ := bytes_of_string (P := Tryz.prog) 9 50 5 Tryz.underlying9 Tryz.underlying50 Tryz.underlying5 w s
  have CI := Lib.hid (IndexDig w.heap.size cap s w1 hs hbi)
  have HB := Lib.hid hb1
  clear hbi hfz hb1
  obtain ⟨V, hV⟩ : ∃ V, numV s.data.toList = V := ⟨_, rfl⟩
  obtain ⟨B, hB⟩ : ∃ B, numIs s.data.toList = B := ⟨_, rfl⟩
  rw [hV, hB]
  have HV := Lib.hid (And.intro hV hB)
  clear hV hB
  go_enter Tryz.func67, Tryz.ntmps67
  go_wp2_with fail
  (with_reducible refine (CI.out).mono ?_); rintro e w2 ⟨⟨r, rfl, h0⟩, rfl⟩
  cases ha : s.data.toList.all digB with
  | false =>
    obtain ⟨e1, e2⟩ := num_none (l := s.data.toList) (by rw [ha]; simp)
    obtain ⟨f1, f2⟩ := HV.out
    rw [e1] at f1
    rw [e2] at f2
    subst f1 f2
    rw [ha] at h0
    have d0 : decide ((0 : Int) ≤ r) = true := h0
    clear h0 ha e1 e2
    go_wp2_with fail
    go_ret2
    exact ⟨rfl, HB.out⟩
  | true =>
    rw [ha] at h0
    have d0 : decide ((0 : Int) ≤ r) = false := h0
    clear h0
    by_cases h1 : s.size < 1
    · obtain ⟨e1, e2⟩ := num_none (l := s.data.toList) (by rw [size_l]; omega)
      obtain ⟨f1, f2⟩ := HV.out
      rw [e1] at f1
      rw [e2] at f2
      subst f1 f2
      have d1 : decide ((s.size : Int) < 1) = true := by simp; omega
      clear ha e1 e2
      go_wp2_with fail
      go_ret2
      exact ⟨rfl, HB.out⟩
    by_cases h2 : 9 < s.size
    · obtain ⟨e1, e2⟩ := num_none (l := s.data.toList) (by rw [size_l]; omega)
      obtain ⟨f1, f2⟩ := HV.out
      rw [e1] at f1
      rw [e2] at f2
      subst f1 f2
      have d1 : decide ((s.size : Int) < 1) = false := by simp; omega
      have d2 : decide ((9 : Int) < (s.size : Int)) = true := by simp; omega
      clear ha e1 e2
      go_wp2_with fail
      go_ret2
      exact ⟨rfl, HB.out⟩
    have d1 : decide ((s.size : Int) < 1) = false := by simp; omega
    have d2 : decide ((9 : Int) < (s.size : Int)) = false := by simp; omega
    obtain ⟨e1, e2⟩ := num_some (l := s.data.toList) (by rw [size_l]; omega) (by rw [size_l]; omega) ha
    have CA := Lib.hid (fun w => Tryz.strconv_Atoi s _ (by omega) (dec_atoi _ (by rw [size_l]; omega) ha) w)
    obtain ⟨D, hD⟩ : ∃ D, decV s.data.toList = D := ⟨_, rfl⟩
    rw [hD] at e1 CA
    obtain ⟨f1, f2⟩ := HV.out
    rw [e1] at f1
    rw [e2] at f2
    subst f1 f2
    clear hD
    clear ha e1 e2
    go_wp2_with fail
    (with_reducible refine (CA.out _).mono ?_); rintro e w3 ⟨rfl, t, rfl⟩
    have hb3 := HB.out.trans ((Lib.bytesWorld_below w1 5 t).mono HB.out.size)
    generalize Lib.bytesWorld w1 5 t = w3 at hb3 ⊢
    go_wp2_with fail
    go_ret2
    exact ⟨rfl, hb3⟩
end

section
open Go.RowKit

theorem values_low {a b : List UInt8} (h : lowL a = lowL b) (l : List Fld) : valuesL a l = valuesL b l := by
  unfold valuesL sameN
  rw [h]

set_option maxRecDepth 100000 in
set_option maxHeartbeats 4000000 in
theorem fNamed (A : Option Addr) (n c : Nat) (l : List Fld) (nm : ByteArray) (w : World) (hr : Reads w w.heap.size 2 A n (fldsC l)) (hn : n ≤ 100000) (hl : fldsOk l) (hnm : nm.size ≤ 9223372036854775807) :
    Calls Tryz.prog 43 #[.agg #[.slice A n c], .string nm] w (TextsPost (valuesL nm.data.toList l) w) := by
  obtain rfl := hr.flen
  have HR := Lib.hid hr
  have HL := Lib.hid hl
  clear hr hl
  have hb0 : Below w.heap.size w (w.alloc (.cells #[.slice A l.length c] 95)) := (Below.refl _ _).alloc (Nat.le_refl _) _
  have HB0 := Lib.hid hb0
  clear hb0
  go_enter Tryz.func43, Tryz.ntmps43
  go_wp2_with fail
  go_loopw [5, 11] (fun o i wr => ∃ k : Nat, i = .int .i64 k ∧ k ≤ l.length ∧ Hid (wr.ownsRow w.heap.size 9 1 o (valuesL nm.data.toList (l.take k)).length (strs (valuesL nm.data.toList (l.take k)))) ∧ Below w.heap.size w wr) (fun _ i _ => l.length - (intOf i).toNat)
  case atStart => exact ⟨0, rfl, by omega, World.ownsRow_nil _ _ _ _, HB0.out⟩
  case round =>
    obtain ⟨k, rfl, hk, HO, hb⟩ := hrel
    rename World => W0
    by_cases hlt : k < l.length
    · obtain ⟨b, o, rfl, hbl, q0, q1⟩ := HR.out.fld k hlt
      have c0 := (hb.cell (p := ⟨b, o + k * 2, none⟩) hbl).trans q0
      have c1 := (hb.cell (p := ⟨b, o + k * 2 + 1, none⟩) hbl).trans q1
      obtain ⟨f, hf⟩ : ∃ f, l[k] = f := ⟨_, rfl⟩
      have hok := HL.out l[k] (List.getElem_mem hlt)
      rw [hf] at c0 c1 hok
      have htk := take_snoc_of hlt hf
      have hnl := valuesL_len nm.data.toList (l.take k)
      rw [List.length_take] at hnl
      have cS := fun w => TSame_any (bs f.1) nm w (by rw [bs_size]; omega) (by omega)
      rw [bs_list] at cS
      have kB := Lib.hid (Blk.new W0 49 #[.string (bs f.1), .string (bs f.2)])
      rcases Bool.eq_false_or_eq_true (sameN nm.data.toList f) with hs | hs
      · have hN := valuesL_app nm.data.toList (l.take k) f
        rw [← htk, hs, if_pos rfl] at hN
        have hs' : (lowL f.1 == lowL nm.data.toList) = true := hs
        rw [hs'] at cS
        have CS := Lib.hid cS
        have HN := Lib.hid hN
        clear q0 q1 cS hf htk hs hs' hN hok
        go_wp2_with fail
        (with_reducible refine (CS.out _).mono ?_); rintro e w1 ⟨rfl, hb1⟩
        have hbX := (hb.alloc hb.size _).trans (hb1.mono (by have := hb.size; simp; omega))
        have hbA : Below W0.heap.size W0 w1 := ((Below.refl _ _).alloc (Nat.le_refl _) _).trans (hb1.mono (by simp))
        have d1 : w1.cell? ⟨W0.heap.size, 1, none⟩ = some (.string (bs f.2)) := (kB.out.below hb1 kB.out.lt).cell 1
        obtain ⟨v', w5, hrun, hown, hb5, _⟩ := app_txt (own_below HO.out hbA) hbX.size (by omega) f.2
        have HO' : Hid (w5.ownsRow w.heap.size 9 1 v' (valuesL nm.data.toList (l.take (k + 1))).length (strs (valuesL nm.data.toList (l.take (k + 1))))) := by
          show w5.ownsRow _ _ _ _ _ _
          rw [HN.out]; exact hown
        have HRUN := Lib.hid hrun
        have hbY := hbX.trans hb5
        clear hrun hown hb5 hb1 hbA hbX c0 c1
        go_wp2_with (at_builtin; refine wpList_append_run HRUN.out rfl _ _ rfl rfl rfl rfl ?_)
        go_roundw
        case rel => exact ⟨k + 1, by go_num, by omega, HO', hbY⟩
        case measure => simp [intOf]; omega
      · have hN := valuesL_app nm.data.toList (l.take k) f
        rw [← htk, hs, if_neg (by simp), List.append_nil] at hN
        have hs' : (lowL f.1 == lowL nm.data.toList) = false := hs
        rw [hs'] at cS
        have CS := Lib.hid cS
        have HN := Lib.hid hN
        clear q0 q1 cS hf htk hs hs' hN hok
        go_wp2_with fail
        (with_reducible refine (CS.out _).mono ?_); rintro e w1 ⟨rfl, hb1⟩
        have hbX := (hb.alloc hb.size _).trans (hb1.mono (by have := hb.size; simp; omega))
        have hbA : Below W0.heap.size W0 w1 := ((Below.refl _ _).alloc (Nat.le_refl _) _).trans (hb1.mono (by simp))
        have HO' : Hid (w1.ownsRow w.heap.size 9 1 u5 (valuesL nm.data.toList (l.take (k + 1))).length (strs (valuesL nm.data.toList (l.take (k + 1))))) := by
          show w1.ownsRow _ _ _ _ _ _
          rw [HN.out]; exact own_below HO.out hbA
        clear hb1 hbA c0 c1
        go_wp2_with fail
        go_roundw
        case rel => exact ⟨k + 1, by go_num, by omega, HO', hbX⟩
        case measure => simp [intOf]; omega
    · have hkl : k = l.length := by omega
      subst hkl
      have hd2 : decide ((l.length : Int) < (l.length : Int)) = false := by simp
      have ho := HO.out
      rw [List.take_length] at ho
      obtain ⟨A', cap, rfl⟩ := own_slice ho
      have HO2 := Lib.hid ho
      clear ho
      go_wp2_with fail
      go_ret
      exact ⟨A', cap, rfl, own_capA HO2.out, Reads.of_own HO2.out, hb⟩

set_option maxRecDepth 100000 in
set_option maxHeartbeats 4000000 in
theorem rValues (A : Option Addr) (n c : Nat) (l : List Fld) (nm : ByteArray) (w : World) (hr : Reads w w.heap.size 2 A n (fldsC l)) (hn : n ≤ 100000) (hl : fldsOk l) (hnm : nm.size ≤ 100000) :
    Calls Tryz.prog 86 #[.slice A n c, .string nm] w (TextsPost (valuesL nm.data.toList l) w) := by
  obtain rfl := hr.flen
  have HR := Lib.hid hr
  have HL := Lib.hid hl
  clear hr hl
  go_enter Tryz.func86, Tryz.ntmps86
  go_wp2_with fail
  go_loopw [5, 6] (fun o i wr => ∃ k : Nat, i = .int .i64 k ∧ k ≤ l.length ∧ Hid (wr.ownsRow w.heap.size 9 1 o (valuesL nm.data.toList (l.take k)).length (strs (valuesL nm.data.toList (l.take k)))) ∧ Below w.heap.size w wr) (fun _ i _ => l.length - (intOf i).toNat)
  case atStart => exact ⟨0, rfl, by omega, World.ownsRow_nil _ _ _ _, Below.refl _ _⟩
  case round =>
    obtain ⟨k, rfl, hk, HO, hb⟩ := hrel
    rename World => W0
    by_cases hlt : k < l.length
    · obtain ⟨b, o, rfl, hbl, q0, q1⟩ := HR.out.fld k hlt
      have c0 := (hb.cell (p := ⟨b, o + k * 2, none⟩) hbl).trans q0
      have c1 := (hb.cell (p := ⟨b, o + k * 2 + 1, none⟩) hbl).trans q1
      obtain ⟨f, hf⟩ : ∃ f, l[k] = f := ⟨_, rfl⟩
      have hok := HL.out l[k] (List.getElem_mem hlt)
      rw [hf] at c0 c1 hok
      have htk := take_snoc_of hlt hf
      have hnl := valuesL_len nm.data.toList (l.take k)
      rw [List.length_take] at hnl
      have cS := fun w => rSame (bs f.1) nm w (by rw [bs_size]; omega) (by omega)
      rw [bs_list] at cS
      rcases Bool.eq_false_or_eq_true (sameN nm.data.toList f) with hs | hs
      · have hN := valuesL_app nm.data.toList (l.take k) f
        rw [← htk, hs, if_pos rfl] at hN
        have hs' : (lowL f.1 == lowL nm.data.toList) = true := hs
        rw [hs'] at cS
        have CS := Lib.hid cS
        have HN := Lib.hid hN
        have HC := Lib.hid c1
        clear q0 q1 cS hf htk hs hs' hN hok c1
        go_wp2_with fail
        (with_reducible refine (CS.out _).mono ?_); rintro e w1 ⟨rfl, hb1⟩
        have hbX := hb.trans (hb1.mono hb.size)
        have d1 := (hb1.cell (p := ⟨b, o + k * 2 + 1, none⟩) (Nat.lt_of_lt_of_le hbl hb.size)).trans HC.out
        obtain ⟨v', w5, hrun, hown, hb5, _⟩ := app_txt (own_below HO.out hb1) hbX.size (by omega) f.2
        have HO' : Hid (w5.ownsRow w.heap.size 9 1 v' (valuesL nm.data.toList (l.take (k + 1))).length (strs (valuesL nm.data.toList (l.take (k + 1))))) := by
          show w5.ownsRow _ _ _ _ _ _
          rw [HN.out]; exact hown
        have HRUN := Lib.hid hrun
        have hbY := hbX.trans hb5
        clear hrun hown hb5 hb1 hbX
        go_wp2_with (at_builtin; refine wpList_append_run HRUN.out rfl _ _ rfl rfl rfl rfl ?_)
        go_roundw
        case rel => exact ⟨k + 1, by go_num, by omega, HO', hbY⟩
        case measure => simp [intOf]; omega
      · have hN := valuesL_app nm.data.toList (l.take k) f
        rw [← htk, hs, if_neg (by simp), List.append_nil] at hN
        have hs' : (lowL f.1 == lowL nm.data.toList) = false := hs
        rw [hs'] at cS
        have CS := Lib.hid cS
        have HN := Lib.hid hN
        clear q0 q1 cS hf htk hs hs' hN hok
        go_wp2_with fail
        (with_reducible refine (CS.out _).mono ?_); rintro e w1 ⟨rfl, hb1⟩
        have hbX := hb.trans (hb1.mono hb.size)
        have HO' : Hid (w1.ownsRow w.heap.size 9 1 u5 (valuesL nm.data.toList (l.take (k + 1))).length (strs (valuesL nm.data.toList (l.take (k + 1))))) := by
          show w1.ownsRow _ _ _ _ _ _
          rw [HN.out]; exact own_below HO.out hb1
        clear hb1
        go_wp2_with fail
        go_roundw
        case rel => exact ⟨k + 1, by go_num, by omega, HO', hbX⟩
        case measure => simp [intOf]; omega
    · have hkl : k = l.length := by omega
      subst hkl
      have hd2 : decide ((l.length : Int) < (l.length : Int)) = false := by simp
      have ho := HO.out
      rw [List.take_length] at ho
      obtain ⟨A', cap, rfl⟩ := own_slice ho
      have HO2 := Lib.hid ho
      clear ho
      go_wp2_with fail
      go_ret
      exact ⟨A', cap, rfl, own_capA HO2.out, Reads.of_own HO2.out, hb⟩

set_option maxRecDepth 100000 in
set_option maxHeartbeats 4000000 in
theorem pChunked (A : Option Addr) (n c : Nat) (l : List Fld) (w : World) (hr : Reads w w.heap.size 2 A n (fldsC l)) (hn : n ≤ 100000) (hl : fldsOk l) :
    Calls Tryz.prog 41 #[.agg #[.slice A n c]] w fun e w' => e = .returned (.tuple #[.bool (chunkT (valuesL teN l)).1, .int .i64 ((chunkT (valuesL teN l)).2 : Nat)]) ∧ Below w.heap.size w w' := by
  obtain rfl := hr.flen
  have hb0 : Below w.heap.size w (w.alloc (.cells #[.slice A l.length c] 97)) := (Below.refl _ _).alloc (Nat.le_refl _) _
  have cN := fNamed A l.length c l ⟨#[84, 114, 97, 110, 115, 102, 101, 114, 45, 69, 110, 99, 111, 100, 105, 110, 103]⟩ (w.alloc (.cells #[.slice A l.length c] 97)) ((hr.below hb0).more hb0.size) hn hl (by decide)
  unfold TextsPost at cN
  rw [show (⟨#[84, 114, 97, 110, 115, 102, 101, 114, 45, 69, 110, 99, 111, 100, 105, 110, 103]⟩ : ByteArray).data.toList = teN from rfl] at cN
  have hv : ∀ v ∈ valuesL teN l, v.length ≤ 100000 := fun v hv => by
    unfold valuesL at hv
    obtain ⟨f, hf, rfl⟩ := List.mem_map.1 hv
    exact (hl f (List.mem_filter.1 hf).1).2
  have hvl := valuesL_len teN l
  obtain ⟨V, hV⟩ : ∃ V, valuesL teN l = V := ⟨_, rfl⟩
  rw [hV] at cN hv hvl ⊢
  have CN := Lib.hid cN
  have HB0 := Lib.hid hb0
  clear cN hr hl hb0 hV
  match V, hv, hvl with
  | [], _, _ =>
    go_enter Tryz.func41, Tryz.ntmps41
    go_wp2_with fail
    (with_reducible refine (CN.out).mono ?_); rintro e w1 ⟨A1, q1, rfl, _, hr1, hb1⟩
    have hbX := HB0.out.trans (hb1.mono HB0.out.size)
    go_wp2_with fail
    go_ret2
    exact ⟨rfl, hbX⟩
  | [v], hv, _ =>
    have hvs := hv v (by simp)
    have cS := fun w => TSame_any (bs v) ⟨#[99, 104, 117, 110, 107, 101, 100]⟩ w (by rw [bs_size]; omega) (by decide)
    rw [bs_list, show lowL (⟨#[99, 104, 117, 110, 107, 101, 100]⟩ : ByteArray).data.toList = ckN from by decide] at cS
    have hc : chunkT [v] = if lowL v == ckN then (true, 0) else (false, 3) := rfl
    rw [hc]
    cases hx : (lowL v == ckN) with
    | true =>
      rw [hx] at cS
      have CS := Lib.hid cS
      clear cS hx hc
      go_enter Tryz.func41, Tryz.ntmps41
      go_wp2_with fail
      (with_reducible refine (CN.out).mono ?_); rintro e w1 ⟨A1, q1, rfl, _, hr1, hb1⟩
      have hbX := HB0.out.trans (hb1.mono HB0.out.size)
      obtain ⟨b, o, rfl, _, c0⟩ := hr1.text 0 (by simp)
      have c0' : w1.cell? ⟨b, o, none⟩ = some (.string (bs v)) := c0
      clear hr1 hb1 c0
      go_wp2_with fail
      (with_reducible refine (CS.out _).mono ?_); rintro e w2 ⟨rfl, hb2⟩
      have hbY := hbX.trans (hb2.mono hbX.size)
      go_wp2_with fail
      go_ret2
      exact ⟨rfl, hbY⟩
    | false =>
      rw [hx] at cS
      have CS := Lib.hid cS
      clear cS hx hc
      go_enter Tryz.func41, Tryz.ntmps41
      go_wp2_with fail
      (with_reducible refine (CN.out).mono ?_); rintro e w1 ⟨A1, q1, rfl, _, hr1, hb1⟩
      have hbX := HB0.out.trans (hb1.mono HB0.out.size)
      obtain ⟨b, o, rfl, _, c0⟩ := hr1.text 0 (by simp)
      have c0' : w1.cell? ⟨b, o, none⟩ = some (.string (bs v)) := c0
      clear hr1 hb1 c0
      go_wp2_with fail
      (with_reducible refine (CS.out _).mono ?_); rintro e w2 ⟨rfl, hb2⟩
      have hbY := hbX.trans (hb2.mono hbX.size)
      go_wp2_with fail
      go_ret2
      exact ⟨rfl, hbY⟩
  | v1 :: v2 :: r, _, hvl =>
    have d1 : (((v1 :: v2 :: r).length : Int) == 0) = false := beq_eq_false_iff_ne.2 (by simp; omega)
    have d2 : decide ((1 : Int) < ((v1 :: v2 :: r).length : Int)) = true := by simp; omega
    have hc : chunkT (v1 :: v2 :: r) = (false, 3) := rfl
    rw [hc]
    generalize (v1 :: v2 :: r).length = N at *
    clear hc
    go_enter Tryz.func41, Tryz.ntmps41
    go_wp2_with fail
    (with_reducible refine (CN.out).mono ?_); rintro e w1 ⟨A1, q1, rfl, _, hr1, hb1⟩
    have hbX := HB0.out.trans (hb1.mono HB0.out.size)
    go_wp2_with fail
    go_ret2
    exact ⟨rfl, hbX⟩
set_option maxRecDepth 100000 in
set_option maxHeartbeats 4000000 in
theorem rChunked (A : Option Addr) (n c : Nat) (l : List Fld) (w : World) (hr : Reads w w.heap.size 2 A n (fldsC l)) (hn : n ≤ 100000) (hl : fldsOk l) :
    Calls Tryz.prog 56 #[.slice A n c] w fun e w' => e = .returned (.tuple #[.bool (chunkT (valuesL teN l)).1, .int .i64 ((chunkT (valuesL teN l)).2 : Nat)]) ∧ Below w.heap.size w w' := by
  obtain rfl := hr.flen
  have cN := rValues A l.length c l ⟨#[116, 114, 97, 110, 115, 102, 101, 114, 45, 101, 110, 99, 111, 100, 105, 110, 103]⟩ w hr hn hl (by decide)
  unfold TextsPost at cN
  rw [values_low (show lowL (⟨#[116, 114, 97, 110, 115, 102, 101, 114, 45, 101, 110, 99, 111, 100, 105, 110, 103]⟩ : ByteArray).data.toList = lowL teN by decide)] at cN
  have hv : ∀ v ∈ valuesL teN l, v.length ≤ 100000 := fun v hv => by
    unfold valuesL at hv
    obtain ⟨f, hf, rfl⟩ := List.mem_map.1 hv
    exact (hl f (List.mem_filter.1 hf).1).2
  have hvl := valuesL_len teN l
  obtain ⟨V, hV⟩ : ∃ V, valuesL teN l = V := ⟨_, rfl⟩
  rw [hV] at cN hv hvl ⊢
  have CN := Lib.hid cN
  clear cN hr hl hV
  match V, hv, hvl with
  | [], _, _ =>
    go_enter Tryz.func56, Tryz.ntmps56
    go_wp2_with fail
    (with_reducible refine (CN.out).mono ?_); rintro e w1 ⟨A1, q1, rfl, _, hr1, hb1⟩
    have hbX := hb1
    go_wp2_with fail
    go_ret2
    exact ⟨rfl, hbX⟩
  | [v], hv, _ =>
    have hvs := hv v (by simp)
    have cS := fun w => rSame (bs v) ⟨#[99, 104, 117, 110, 107, 101, 100]⟩ w (by rw [bs_size]; omega) (by decide)
    rw [bs_list, show lowL (⟨#[99, 104, 117, 110, 107, 101, 100]⟩ : ByteArray).data.toList = ckN from by decide] at cS
    have hc : chunkT [v] = if lowL v == ckN then (true, 0) else (false, 3) := rfl
    rw [hc]
    cases hx : (lowL v == ckN) with
    | true =>
      rw [hx] at cS
      have CS := Lib.hid cS
      clear cS hx hc
      go_enter Tryz.func56, Tryz.ntmps56
      go_wp2_with fail
      (with_reducible refine (CN.out).mono ?_); rintro e w1 ⟨A1, q1, rfl, _, hr1, hb1⟩
      have hbX := hb1
      obtain ⟨b, o, rfl, _, c0⟩ := hr1.text 0 (by simp)
      have c0' : w1.cell? ⟨b, o, none⟩ = some (.string (bs v)) := c0
      clear hr1 hb1 c0
      go_wp2_with fail
      (with_reducible refine (CS.out _).mono ?_); rintro e w2 ⟨rfl, hb2⟩
      have hbY := hbX.trans (hb2.mono hbX.size)
      go_wp2_with fail
      go_ret2
      exact ⟨rfl, hbY⟩
    | false =>
      rw [hx] at cS
      have CS := Lib.hid cS
      clear cS hx hc
      go_enter Tryz.func56, Tryz.ntmps56
      go_wp2_with fail
      (with_reducible refine (CN.out).mono ?_); rintro e w1 ⟨A1, q1, rfl, _, hr1, hb1⟩
      have hbX := hb1
      obtain ⟨b, o, rfl, _, c0⟩ := hr1.text 0 (by simp)
      have c0' : w1.cell? ⟨b, o, none⟩ = some (.string (bs v)) := c0
      clear hr1 hb1 c0
      go_wp2_with fail
      (with_reducible refine (CS.out _).mono ?_); rintro e w2 ⟨rfl, hb2⟩
      have hbY := hbX.trans (hb2.mono hbX.size)
      go_wp2_with fail
      go_ret2
      exact ⟨rfl, hbY⟩
  | v1 :: v2 :: r, _, hvl =>
    have d1 : (((v1 :: v2 :: r).length : Int) == 0) = false := beq_eq_false_iff_ne.2 (by simp; omega)
    have d2 : decide ((1 : Int) < ((v1 :: v2 :: r).length : Int)) = true := by simp; omega
    have hc : chunkT (v1 :: v2 :: r) = (false, 3) := rfl
    rw [hc]
    generalize (v1 :: v2 :: r).length = N at *
    clear hc
    go_enter Tryz.func56, Tryz.ntmps56
    go_wp2_with fail
    (with_reducible refine (CN.out).mono ?_); rintro e w1 ⟨A1, q1, rfl, _, hr1, hb1⟩
    have hbX := hb1
    go_wp2_with fail
    go_ret2
    exact ⟨rfl, hbX⟩
end

section
open Go.RowKit

theorem CutInv.mem {c : UInt8} {s : ByteArray} {k fr : Nat} {D : List (List UInt8)} (h : CutInv c s k fr D) : ∀ x ∈ D, x ∈ splitC c s.data.toList := by
  intro x hx
  rcases h with ⟨_, _, h⟩ | ⟨_, h⟩
  · rw [h]; exact List.mem_append_left _ hx
  · rw [h]; exact hx
theorem pick_num (x : List UInt8) : numV (trimL x) = (pickL x).getD 0 ∧ numIs (trimL x) = !badL x := by
  unfold numV numIs pickL badL
  cases lenE (trimL x) <;> exact ⟨rfl, rfl⟩
theorem pick_snoc (P : List (List UInt8)) (x : List UInt8) (h : badL x = false) : (P ++ [x]).filterMap pickL = P.filterMap pickL ++ [(pickL x).getD 0] := by
  rw [List.filterMap_append]
  congr 1
  unfold badL at h
  cases hx : pickL x with
  | none => unfold pickL at hx; rw [hx] at h; simp at h
  | some n => simp [hx]
theorem bad_snoc (P : List (List UInt8)) (x : List UInt8) (h1 : P.any badL = false) (h : badL x = false) : (P ++ [x]).any badL = false := by
  rw [List.any_append, h1]; simp [h]
theorem lens_bad {P : List (List UInt8)} {x : List UInt8} (hx : x ∈ P) (h : badL x = true) : lensP P = ([], 3) := by
  unfold lensP
  rw [if_pos (List.any_eq_true.2 ⟨x, hx, h⟩)]
theorem lens_good {P : List (List UInt8)} (h : P.any badL = false) : lensP P = (P.filterMap pickL, 0) := by
  unfold lensP
  rw [if_neg (by rw [h]; simp)]
theorem pieces_take (V : List (List UInt8)) (i : Nat) (h : i < V.length) : piecesL (V.take (i + 1)) = piecesL (V.take i) ++ splitC 44 V[i] := by
  rw [List.take_succ_eq_append_getElem h, pieces_app]
theorem pieces_mem_of {V : List (List UInt8)} {v x : List UInt8} (hv : v ∈ V) (hx : x ∈ splitC 44 v) : x ∈ piecesL V := by
  unfold piecesL
  exact List.mem_flatMap.2 ⟨v, hv, hx⟩
/-- lists of short fields -/
def fldsS (l : List Fld) : Prop := ∀ f ∈ l, f.1.length ≤ 600 ∧ f.2.length ≤ 600
theorem fldsS_ok {l : List Fld} (h : fldsS l) : fldsOk l := fun f hf => by have := h f hf; omega
theorem fldsS_values {l : List Fld} (h : fldsS l) (nm : List UInt8) : ∀ v ∈ valuesL nm l, v.length ≤ 600 := fun v hv => by
  unfold valuesL at hv
  obtain ⟨f, hf, rfl⟩ := List.mem_map.1 hv
  exact (h f (List.mem_filter.1 hf).1).2
theorem pieces_take_len (V : List (List UInt8)) (hV : V.length ≤ 1000) (hv : ∀ v ∈ V, v.length ≤ 600) (i : Nat) : (piecesL (V.take i)).length ≤ 601000 := by
  have h1 := (pieces_len (V.take i) 600 (fun v h => hv v (List.mem_of_mem_take h))).1
  have h2 : (V.take i).length * (600 + 1) ≤ 1000 * 601 := Nat.mul_le_mul (by rw [List.length_take]; omega) (by omega)
  omega
/-- lengths handed back, and an error -/
def LensPost (t : List Nat × Nat) (w : World) (e : Ending) (w' : World) : Prop :=
  ∃ A cap, e = .returned (.tuple #[.slice A t.1.length cap, .int .i64 t.2]) ∧ t.1.length ≤ cap ∧ Reads w' w'.heap.size 1 A t.1.length (ints t.1) ∧ Below w.heap.size w w'

set_option maxRecDepth 100000 in
set_option maxHeartbeats 8000000 in
theorem rLengths (A : Option Addr) (n c : Nat) (l : List Fld) (w : World) (hr : Reads w w.heap.size 2 A n (fldsC l)) (hn : n ≤ 1000) (hl : fldsS l) :
    Calls Tryz.prog 55 #[.slice A n c] w (LensPost (lensT (valuesL clN l)) w) := by
  obtain rfl := hr.flen
  have cN := rValues A l.length c l ⟨#[99, 111, 110, 116, 101, 110, 116, 45, 108, 101, 110, 103, 116, 104]⟩ w hr (by omega) (fldsS_ok hl) (by decide)
  unfold TextsPost at cN
  rw [values_low (show lowL (⟨#[99, 111, 110, 116, 101, 110, 116, 45, 108, 101, 110, 103, 116, 104]⟩ : ByteArray).data.toList = lowL clN by decide)] at cN
  have hv := fldsS_values hl clN
  have hvl := valuesL_len clN l
  obtain ⟨V, hV⟩ : ∃ V, valuesL clN l = V := ⟨_, rfl⟩
  rw [hV] at cN hv hvl ⊢
  have hV1 : V.length ≤ 1000 := by omega
  obtain ⟨R, hR⟩ : ∃ R, lensT V = R := ⟨_, rfl⟩
  rw [hR]
  have CN := Lib.hid cN
  have HV := Lib.hid (And.intro hv hR)
  have PL := Lib.hid (pieces_take_len V hV1 hv)
  clear cN hr hl hV hv hvl hR hn
  go_enter Tryz.func55, Tryz.ntmps55
  go_wp2_with fail
  (with_reducible refine (CN.out).mono ?_); rintro e w1 ⟨A1, q1, rfl, _, hr1, hb1⟩
  have HT := Lib.hid (And.intro hr1 hb1)
  clear hr1 hb1 CN
  go_wp2_with fail
  go_loopw [4, 6] (fun o i wr => ∃ k : Nat, i = .int .i64 k ∧ k ≤ V.length ∧ Hid ((piecesL (V.take k)).any badL = false) ∧ Hid (wr.ownsRow w1.heap.size 3 1 o ((piecesL (V.take k)).filterMap pickL).length (ints ((piecesL (V.take k)).filterMap pickL))) ∧ Hid (Below w1.heap.size w1 wr)) (fun _ i _ => V.length - (intOf i).toNat)
  case atStart => exact ⟨0, rfl, by omega, hide rfl, World.ownsRow_nil _ _ _ _, Below.refl _ _⟩
  case round =>
    obtain ⟨i, rfl, hi, HG, HO, HB⟩ := hrel
    rename World => W0
    by_cases hlt : i < V.length
    · obtain ⟨b, o, rfl, hbl, c0⟩ := HT.out.1.text i hlt
      obtain ⟨v, hv⟩ : ∃ v, V[i] = v := ⟨_, rfl⟩
      have hvs := HV.out.1 V[i] (List.getElem_mem hlt)
      have hvm : v ∈ V := by rw [← hv]; exact List.getElem_mem hlt
      have hpt := pieces_take V i hlt
      rw [hv] at c0 hvs hpt
      obtain ⟨s, hs⟩ : ∃ s, bs v = s := ⟨_, rfl⟩
      have hsl : s.data.toList = v := by rw [← hs]; rfl
      have hss : s.size ≤ 600 := by rw [← size_l, hsl]; exact hvs
      rw [hs] at c0
      rw [← hsl] at hpt hvm
      have HC0 := Lib.hid (And.intro hbl c0)
      have HP := Lib.hid (And.intro hpt hvm)
      have i0 : (0 : Int) ≤ (i : Int) := by omega
      have i1 : (i : Int) < (V.length : Int) := by omega
      obtain ⟨P, hP⟩ : ∃ P, piecesL (V.take i) = P := ⟨_, rfl⟩
      have hPl := PL.out i
      rw [hP] at HG HO HP hPl
      clear hbl c0 hpt hvm hvs hsl hs hv hP
      go_wp2_with fail
      go_loopw [4, 7, 8] (fun o2 f k wr => ∃ (j fr : Nat) (D : List (List UInt8)), k = .int .i64 j ∧ f = .int .i64 fr ∧ j ≤ s.size + 1 ∧ fr ≤ s.size + 1 ∧ D.length ≤ j ∧ Hid (CutInv 44 s j fr D) ∧ Hid ((P ++ D).any badL = false) ∧ Hid (wr.ownsRow w1.heap.size 3 1 o2 ((P ++ D).filterMap pickL).length (ints ((P ++ D).filterMap pickL))) ∧ Hid (Below w1.heap.size w1 wr)) (fun _ _ k _ => s.size + 1 - (intOf k).toNat)
      case atStart => exact ⟨0, 0, [], rfl, rfl, by omega, by omega, Nat.le_refl _, CutInv.start 44 s, (by rw [List.append_nil]; exact HG), (by rw [List.append_nil]; exact HO), HB⟩
      case round =>
        obtain ⟨j, fr, D, rfl, rfl, hj, hfr, hD, HC, HG2, HO2, HB2⟩ := hrel
        rename World => W1
        have c0 := (HB2.out.cell (p := ⟨b, o + i, none⟩) HC0.out.1).trans HC0.out.2
        by_cases hle : j ≤ s.size
        · have hfk := HC.out.le hle
          have hle1 : decide ((j : Int) ≤ (s.size : Int)) = true := by simp; omega
          obtain ⟨p, hp⟩ : ∃ p, s.extract fr j = p := ⟨_, rfl⟩
          have hps : p.size ≤ 600 := by rw [← hp, ByteArray.size_extract]; omega
          have TR := Lib.hid (fun w => rTrim p w (by omega))
          obtain ⟨q, hq⟩ : ∃ q, tr p = q := ⟨_, rfl⟩
          have hql : q.data.toList = trimL p.data.toList := by rw [← hq]; exact tr_list p
          have hqs : q.size ≤ 600 := by rw [← hq]; have := tr_size p; omega
          have cN := fun w => rNumber q w (by omega)
          obtain ⟨e1, e2⟩ := pick_num p.data.toList
          rw [hql, e1, e2] at cN
          rw [hq] at TR
          have hfl : (P ++ D).filterMap pickL = (P ++ D).filterMap pickL := rfl
          have hcnt : ((P ++ D).filterMap pickL).length ≤ 1000000 := by
            have := List.length_filterMap_le pickL (P ++ D)
            rw [List.length_append] at this
            omega
          obtain ⟨N, hN⟩ : ∃ N, (pickL p.data.toList).getD 0 = N := ⟨_, rfl⟩
          rw [hN] at cN
          obtain ⟨v', w5, hrun, hown, hb5, _⟩ := app_int HO2.out HB2.out.size hcnt N
          have HB5 : Hid (Below w1.heap.size w1 w5) := hide (HB2.out.trans hb5)
          have HRUN := Lib.hid hrun
          have HOW := Lib.hid hown
          clear hrun hown hb5 hfl e1 e2 hq hql
          by_cases hend : j = s.size
          · subst hend
            have HN : Hid (CutInv 44 s (s.size + 1) (s.size + 1) (D ++ [p.data.toList])) := by
              have := HC.out.last
              rw [hp] at this
              exact this
            have hlt2 : decide ((s.size : Int) < (s.size : Int)) = false := by simp
            cases hbad : badL p.data.toList with
            | true =>
              rw [hbad] at cN
              have CNq := Lib.hid cN
              have hres : R = ([], 3) := by
                rw [← HV.out.2]
                exact lens_bad (pieces_mem_of HP.out.2 (HN.out.mem _ (by simp))) hbad
              subst hres
              clear cN hbad hN
              go_wp2_with (first
                | (go_at_call 88; (with_reducible refine (TR.out _).mono ?_); rintro r w' ⟨rfl, rfl⟩)
                | (go_at_call 87; (with_reducible refine (CNq.out _).mono ?_); rintro r w' ⟨rfl, rfl⟩))
              go_ret2
              exact ⟨none, 0, rfl, Nat.le_refl _, Reads.none_, HT.out.2.trans (HB2.out.mono HT.out.2.size)⟩
            | false =>
              rw [hbad] at cN
              have CNq := Lib.hid cN
              have HG3 : Hid ((P ++ (D ++ [p.data.toList])).any badL = false) := by
                show _ = _
                rw [← List.append_assoc]; exact bad_snoc _ _ HG2.out hbad
              have HO3 : Hid (w5.ownsRow w1.heap.size 3 1 v' ((P ++ (D ++ [p.data.toList])).filterMap pickL).length (ints ((P ++ (D ++ [p.data.toList])).filterMap pickL))) := by
                show w5.ownsRow _ _ _ _ _ _
                rw [← List.append_assoc, pick_snoc _ _ hbad, hN]; exact HOW.out
              clear cN hbad hN
              go_wp2_with (first
                | (go_at_call 88; (with_reducible refine (TR.out _).mono ?_); rintro r w' ⟨rfl, rfl⟩)
                | (go_at_call 87; (with_reducible refine (CNq.out _).mono ?_); rintro r w' ⟨rfl, rfl⟩)
                | (at_builtin; refine wpList_append_run HRUN.out rfl _ _ rfl rfl rfl rfl ?_))
              go_roundw
              case rel => exact ⟨s.size + 1, s.size + 1, _, by go_num, by go_num, by omega, by omega, by simp; omega, HN, HG3, HO3, HB5⟩
              case measure => simp [intOf] <;> omega
          · have hjl : j < s.size := by omega
            have hlt2 : decide ((j : Int) < (s.size : Int)) = true := by simp; omega
            clear hend
            by_cases hc : s[j] = 44
            · have hcb := eqb_t (show (s[j].toNat : Int) = 44 by rw [hc]; rfl)
              have hcn : ((s[j].toNat : Int) != 44) = false := by simp [bne, hcb]
              have HN : Hid (CutInv 44 s (j + 1) (j + 1) (D ++ [p.data.toList])) := by
                have := HC.out.comma hjl hc
                rw [hp] at this
                exact this
              cases hbad : badL p.data.toList with
              | true =>
                rw [hbad] at cN
                have CNq := Lib.hid cN
                have hres : R = ([], 3) := by
                  rw [← HV.out.2]
                  exact lens_bad (pieces_mem_of HP.out.2 (HN.out.mem _ (by simp))) hbad
                subst hres
                clear cN hbad hN hc
                go_wp2_with (first
                  | (go_at_call 88; (with_reducible refine (TR.out _).mono ?_); rintro r w' ⟨rfl, rfl⟩)
                  | (go_at_call 87; (with_reducible refine (CNq.out _).mono ?_); rintro r w' ⟨rfl, rfl⟩))
                go_ret2
                exact ⟨none, 0, rfl, Nat.le_refl _, Reads.none_, HT.out.2.trans (HB2.out.mono HT.out.2.size)⟩
              | false =>
                rw [hbad] at cN
                have CNq := Lib.hid cN
                have HG3 : Hid ((P ++ (D ++ [p.data.toList])).any badL = false) := by
                  show _ = _
                  rw [← List.append_assoc]; exact bad_snoc _ _ HG2.out hbad
                have HO3 : Hid (w5.ownsRow w1.heap.size 3 1 v' ((P ++ (D ++ [p.data.toList])).filterMap pickL).length (ints ((P ++ (D ++ [p.data.toList])).filterMap pickL))) := by
                  show w5.ownsRow _ _ _ _ _ _
                  rw [← List.append_assoc, pick_snoc _ _ hbad, hN]; exact HOW.out
                clear cN hbad hN hc
                go_wp2_with (first
                  | (go_at_call 88; (with_reducible refine (TR.out _).mono ?_); rintro r w' ⟨rfl, rfl⟩)
                  | (go_at_call 87; (with_reducible refine (CNq.out _).mono ?_); rintro r w' ⟨rfl, rfl⟩)
                  | (at_builtin; refine wpList_append_run HRUN.out rfl _ _ rfl rfl rfl rfl ?_))
                go_roundw
                case rel => exact ⟨j + 1, j + 1, _, by go_num, by go_num, by omega, by omega, by simp; omega, HN, HG3, HO3, HB5⟩
                case measure => simp [intOf]; omega
            · have HN := Lib.hid (HC.out.other hjl hc)
              have hcb := eqb_f (a := s[j].toNat) (b := 44) (fun h => hc (UInt8.toNat_inj.1 (show s[j].toNat = 44 by omega)))
              have hcn : ((s[j].toNat : Int) != 44) = true := by simp [bne, hcb]
              clear hc cN hN HOW HRUN HB5
              go_wp2_with fail
              go_roundw
              case rel => exact ⟨j + 1, fr, D, by go_num, rfl, by omega, by omega, by omega, HN, HG2, HO2, HB2⟩
              case measure => simp [intOf]; omega
        · have HD := Lib.hid (HC.out.done (by omega))
          have hle1 : decide ((j : Int) ≤ (s.size : Int)) = false := by simp; omega
          have HE : Hid (piecesL (V.take (i + 1)) = P ++ D) := by show _ = _; rw [HP.out.1, HD.out]
          have HG4 : Hid ((piecesL (V.take (i + 1))).any badL = false) := by show _ = _; rw [HE.out]; exact HG2.out
          have HO4 : Hid (W1.ownsRow w1.heap.size 3 1 u4 ((piecesL (V.take (i + 1))).filterMap pickL).length (ints ((piecesL (V.take (i + 1))).filterMap pickL))) := by
            show W1.ownsRow _ _ _ _ _ _
            rw [HE.out]; exact HO2.out
          go_wp2_with fail
          go_roundw
          case rel => exact ⟨i + 1, by go_num, by omega, HG4, HO4, HB2⟩
          case measure => simp [intOf]; omega
    · obtain rfl : i = V.length := by omega
      have hd2 : decide ((V.length : Int) < (V.length : Int)) = false := by simp
      have hg := HG.out
      have ho := HO.out
      rw [List.take_length] at hg ho
      have hres : R = ((piecesL V).filterMap pickL, 0) := by rw [← HV.out.2]; exact lens_good hg
      subst hres
      obtain ⟨A', cap, rfl⟩ := own_slice ho
      have HO2 := Lib.hid ho
      clear ho hg
      go_wp2_with fail
      go_ret2
      exact ⟨A', cap, rfl, own_capA HO2.out, Reads.of_own HO2.out, HT.out.2.trans (HB.out.mono HT.out.2.size)⟩
end

section
open Go.RowKit Go.Shelf
attribute [local go_sem] Oper.semAt_some

/-- an append whose run is known, inside a fence -/
theorem wpListIn_append_run {F : Fence} {n : Nat} {P : Program} {w w' : World} {ops : Array Oper} {rest : List Oper} {o : Oper} {a : Act} {Q : Exit → Act → World → Prop} {t : TypeId} {v y v' : Value}
    (hrun : (Builtin.append_ #[t, t] t #[v, y]).run P w = .ok v' w') (hgd : o.guard = none) (s x : Operand)
    (ho : o.op = .call { callee := .builtin .append, args := #[s, x], argTypes := #[t, t] }) (hty : o.type = t) (hs : a.eval s = v) (hx : a.eval x = y)
    (h : wpListIn F n P ops Q rest (a.put o.dst v') w') : wpListIn F n P ops Q (o :: rest) a w := by
  refine wpListIn_plain hgd fun K hK' => ?_
  unfold Oper.wpIn
  refine ⟨?_, ?_⟩
  · simp [Oper.about, ho, resolve, Target.leads, Sem.run_pure]
  · rw [Oper.semAt_plain F _ _ (by rw [ho]; intro c hc'; cases hc')]
    simp only [execOp, ho, resolve, invoke, builtin, Sem.run_bind, Sem.run_pure, Result.andThen_ok, List.map_toArray, List.map_cons, List.map_nil, hs, hx, hty, hrun]
    exact hK' _ _ h
theorem infoInt : (Tryz.prog.info? 3).map (fun i => (i.zero, i.size, i.bytes)) = some (some (.int .i64 0), 1, 8) := by kernel_rfl

/-- the marks of loops that are over -/
def markD (D : Nat) : Deferred := { target := .collected D, args := #[] }
def KD (Ds : List Nat) (W : World) : Prop := ∀ D ∈ Ds, W.heap[D]? = some (.deferred (some []))
theorem KD_own {β : Type} (Ds : List Nat) (N : Nat) (h : ∀ D ∈ Ds, D < N) : OwnFrom N (fun (_ : β) W => KD Ds W) := by
  intro s W W' row hs hg hr D hD
  have h0 := hs D hD
  refine (hg.block D (Array.getElem?_eq_some_iff.1 h0).1 (fun e => ?_)).trans h0
  have := (hr D e.symm).1
  have := h D hD
  omega
theorem KD_below {Ds : List Nat} {A B : World} (h : KD Ds A) (hb : Below A.heap.size A B) : KD Ds B := fun D hD => (hb.block D (Array.getElem?_eq_some_iff.1 (h D hD)).1).trans (h D hD)
theorem KD_lt {Ds : List Nat} {A : World} (h : KD Ds A) : ∀ D ∈ Ds, D < A.heap.size := fun D hD => (Array.getElem?_eq_some_iff.1 (h D hD)).1
theorem KD_others {Ds : List Nat} {A B : World} (h : KD Ds A) (hk : KeepsOthers A B) : KD Ds B := fun D hD => hk.same _ _ (h D hD) rfl

def rawB (pre : List ByteArray) : List (List UInt8) := pre.map (·.data.toList)
theorem grown_then {a b c : World} {g : Nat} {row : Option Nat} (h : a.grownBy b (some g)) (k : b.grownBy c row) (hr : ∀ r, row = some r → r = g ∨ a.heap.size ≤ r) : a.grownBy c (some g) :=
  ⟨k.os.trans h.os, k.tape.trans h.tape, k.output.trans h.output, Nat.le_trans h.size k.size, fun i hi hne => (k.block i (Nat.lt_of_lt_of_le hi h.size) (fun e => by
    rcases hr i e.symm with h' | h'
    · exact hne (by rw [h'])
    · omega)).trans (h.block i hi hne)⟩
theorem grown_own {β : Type} (w5 : World) (O N : Nat) (h : w5.heap.size ≤ N) : OwnFrom N (fun (_ : β) W => w5.grownBy W (some O)) :=
  fun _ _ _ _ hs hg hr => grown_then hs hg (fun r e => .inr (Nat.le_trans h (hr r e).1))
/-- between two rounds of the loop over the pieces of one value -/
def FI (w w5 : World) (Bs : Nat) (Ds : List Nat) (P : List (List UInt8)) (pre : List ByteArray) (W : World) : Prop :=
  (((P ++ rawB pre).any badL = false) ∧ Boxed W (w.heap.size + 1) 22 (.slice none 0 0) ∧ Boxed W (w.heap.size + 2) 28 (.int .i64 0) ∧ Bs + 3 ≤ W.heap.size) ∧
  (∃ v, Boxed W (w.heap.size + 3) 22 v ∧ W.ownsRow w5.heap.size 3 1 v ((P ++ rawB pre).filterMap pickL).length (ints ((P ++ rawB pre).filterMap pickL)) ∧ (∀ g, v.ownBlock = some g → g < Bs ∨ Bs + 3 ≤ g)) ∧ ((Below w.heap.size w W ∧ KD Ds W) ∧ w5.grownBy W (some (w.heap.size + 3)))
/-- left by the return of the error -/
def FX (w : World) (Ds : List Nat) (c : Code) (pre : List ByteArray) (W : World) : Prop :=
  (c = .ret ∧ (rawB pre).any badL = true ∧ Boxed W (w.heap.size + 1) 22 (.slice none 0 0) ∧ Boxed W (w.heap.size + 2) 28 (.int .i64 3)) ∧ (Below w.heap.size w W ∧ KD Ds W)
theorem FI_own (w w5 : World) (Bs : Nat) (Ds : List Nat) (P : List (List UInt8)) (N : Nat) (hN : w.heap.size ≤ N) (hN5 : w5.heap.size ≤ N) (hD : ∀ D ∈ Ds, D < N) : OwnFrom N (FI w w5 Bs Ds P) := by
  refine OwnFrom.and (Own.from (fun s X Y row h hg hr => ⟨h.1, boxed_own' (β := Unit) _ _ (fun _ => .slice none 0 0) () X Y row h.2.1 hg hr, boxed_own' (β := Unit) _ _ (fun _ => .int .i64 0) () X Y row h.2.2.1 hg hr, Nat.le_trans h.2.2.2 hg.size⟩) _)
    (OwnFrom.and (Own.from (holdsRow_own w5.heap.size (w.heap.size + 3) 22 3 1 (fun pre => ((P ++ rawB pre).filterMap pickL).length) (fun pre => ints ((P ++ rawB pre).filterMap pickL)) (fun _ v => ∀ g, v.ownBlock = some g → g < Bs ∨ Bs + 3 ≤ g)) _) (OwnFrom.and (OwnFrom.and (ownFrom_below (Nat.le_refl _) hN) (KD_own Ds N hD)) (grown_own w5 _ N hN5)))
theorem FX_own (w : World) (Ds : List Nat) (c : Code) (N : Nat) (hN : w.heap.size ≤ N) (hD : ∀ D ∈ Ds, D < N) : OwnFrom N (FX w Ds c) := by
  refine OwnFrom.and (Own.from (fun s X Y row h hg hr => ⟨h.1, h.2.1, boxed_own' (β := Unit) _ _ (fun _ => .slice none 0 0) () X Y row h.2.2.1 hg hr, boxed_own' (β := Unit) _ _ (fun _ => .int .i64 3) () X Y row h.2.2.2 hg hr⟩) _)
    (OwnFrom.and (ownFrom_below (Nat.le_refl _) hN) (KD_own Ds N hD))
theorem FI_st (w w5 : World) (Bs : Nat) (Ds : List Nat) (P : List (List UInt8)) (hH : w.heap.size + 4 ≤ w5.heap.size) (hB5 : w5.heap.size ≤ Bs) (pre : List ByteArray) (A B : World) (h : FI w w5 Bs Ds P pre A) (hs : splitSt Bs A B) : FI w w5 Bs Ds P pre B := by
  obtain ⟨⟨h1, h2, h3, hz⟩, ⟨v, h4, h5, h6⟩, ⟨h7, h8⟩, h9⟩ := h
  have ne : ∀ {k : Nat}, k ≠ Bs → some k ≠ some Bs := fun hk e => hk (by injection e)
  refine ⟨⟨h1, h2.kept hs.1 (ne (by omega)), h3.kept hs.1 (ne (by omega)), Nat.le_trans hz hs.1.size⟩, ⟨v, h4.kept hs.1 (ne (by omega)), h5.kept hs.1 (.inr ?_), h6⟩, ⟨h7.grown hs.1 h7.size (fun k e => by injection e; omega), KD_others h8 hs.2⟩, grown_then h9 hs.1 (fun r e => by injection e; exact .inr (by omega))⟩
  intro e
  rcases h6 _ e with h | h <;> omega
theorem own_keep {W W' : World} {base e size n : Nat} {v : Value} {xs : List Value} (h : W.ownsRow base e size v n xs) (hb : Below W.heap.size W W') : W'.ownsRow base e size v n xs :=
  h.kept (only_of_below hb none) (by cases v.ownBlock <;> simp)
theorem FI_below {w w5 : World} {Bs : Nat} {Ds : List Nat} {P : List (List UInt8)} {pre : List ByteArray} {A B : World} (h : FI w w5 Bs Ds P pre A) (hb : Below A.heap.size A B) : FI w w5 Bs Ds P pre B := by
  obtain ⟨⟨h1, h2, h3, hz⟩, ⟨v, h4, h5, h6⟩, ⟨h7, h8⟩, h9⟩ := h
  have kb : ∀ {k : Nat} {t : TypeId} {u : Value}, Boxed A k t u → Boxed B k t u := fun hk => (hb.block _ hk.lt).trans hk
  exact ⟨⟨h1, kb h2, kb h3, Nat.le_trans hz hb.size⟩, ⟨v, kb h4, own_keep h5 hb, h6⟩, ⟨h7.trans (hb.mono h7.size), KD_below h8 hb⟩, grown_then h9 (only_of_below hb none) (fun r e => by cases e)⟩
theorem splitKp_grown' {Bs : Nat} {W W' : World} {row : Option Nat} (h : W.grownBy W' row) (hr : ∀ g, row = some g → g < Bs ∨ Bs + 3 ≤ g) : splitKp Bs W W' :=
  fun b h1 h2 _ ho => (h.block b (Array.getElem?_eq_some_iff.1 ho).1 (fun e => by rcases hr b e.symm with h | h <;> omega)).trans ho
theorem rawB_snoc (pre : List ByteArray) (x : ByteArray) : rawB (pre ++ [x]) = rawB pre ++ [x.data.toList] := by simp [rawB]
/-- one more length -/
theorem FI_add {w w5 : World} {Bs : Nat} {Ds : List Nat} {P : List (List UInt8)} {pre : List ByteArray} {x : ByteArray} {A W5 : World} {v v' : Value} {N : Nat} (hH : w.heap.size + 4 ≤ w5.heap.size) (hB5 : w5.heap.size ≤ Bs) (h : FI w w5 Bs Ds P pre A) (hv : Boxed A (w.heap.size + 3) 22 v) (ho : A.ownsRow w5.heap.size 3 1 v ((P ++ rawB pre).filterMap pickL).length (ints ((P ++ rawB pre).filterMap pickL))) (hg : ∀ g, v.ownBlock = some g → g < Bs ∨ Bs + 3 ≤ g)
    (hx : badL x.data.toList = false) (hN : (pickL x.data.toList).getD 0 = N)
    (hown : W5.ownsRow w5.heap.size 3 1 v' (((P ++ rawB pre).filterMap pickL).length + 1) (ints ((P ++ rawB pre).filterMap pickL) ++ [.int .i64 N])) (hgr : A.grownBy W5 v.ownBlock) (hor : v'.ownBlock = v.ownBlock ∨ v'.ownBlock = some (A.heap.size + 1)) (B0 : Nat) :
    Boxed W5 (w.heap.size + 3) 22 v ∧ KeepsFrom B0 A (W5.setCell ⟨w.heap.size + 3, 0, none⟩ v') ∧ splitKp Bs A (W5.setCell ⟨w.heap.size + 3, 0, none⟩ v') ∧ FI w w5 Bs Ds P (pre ++ [x]) (W5.setCell ⟨w.heap.size + 3, 0, none⟩ v') := by
  obtain ⟨⟨h1, h2, h3, hz⟩, _, ⟨h7, h8⟩, h9⟩ := h
  have n2 := h2.not_row (show (22 : TypeId) ≠ 3 by decide) ho
  have n3 := h3.not_row (show (28 : TypeId) ≠ 3 by decide) ho
  have n4 := hv.not_row (show (22 : TypeId) ≠ 3 by decide) ho
  have b4 : Boxed W5 (w.heap.size + 3) 22 v := hv.kept hgr n4
  have m4 := b4.not_row (show (22 : TypeId) ≠ 3 by decide) hown
  have ne : ∀ {k : Nat}, k ≠ w.heap.size + 3 → some k ≠ some (w.heap.size + 3) := fun hk e => hk (by injection e)
  have e : (P ++ rawB (pre ++ [x])).filterMap pickL = (P ++ rawB pre).filterMap pickL ++ [N] := by rw [rawB_snoc, ← List.append_assoc, pick_snoc _ _ hx, hN]
  have hge := own_ge ho
  have hkf : KeepsFrom 0 A (W5.setCell ⟨w.heap.size + 3, 0, none⟩ v') := (keepsFrom_grown ho hgr).trans (keepsFrom_set _ _ _ _)
  refine ⟨b4, (keepsFrom_grown ho hgr).trans (keepsFrom_set _ _ _ _), splitKp_trans (splitKp_grown' hgr hg) (splitKp_set _ _ _ (by omega)), ⟨?_, (h2.kept hgr n2).kept (grownBy_setCell' _ _ _) (ne (by omega)), (h3.kept hgr n3).kept (grownBy_setCell' _ _ _) (ne (by omega)), ?_⟩, ⟨v', b4.set v', ?_, ?_⟩, ⟨?_, ?_⟩, ?_⟩
  · rw [rawB_snoc, ← List.append_assoc]; exact bad_snoc _ _ h1 hx
  · exact Nat.le_trans hz (Nat.le_trans hgr.size (grownBy_setCell' W5 _ v').size)
  · rw [e, ints_app, List.length_append]
    exact hown.kept (grownBy_setCell' W5 _ v') (.inr m4.symm)
  · intro g eg
    rcases hor with h | h
    · exact hg g (h ▸ eg)
    · rw [h] at eg; injection eg with eg; omega
  · exact (h7.grown hgr h7.size fun k ek => by have := hge k ek; omega).setCell (p := ⟨w.heap.size + 3, 0, none⟩) (by simp only; omega) v'
  · exact fun D hD => hkf.same _ _ (Nat.zero_le _) (h8 D hD) rfl
  · exact only_setCell (grown_then h9 hgr fun r e => .inr (hge r e)) (.inl rfl) _

/-- the marks are taken in, one after the other -/
theorem leavesM_all {F : Fence} {n : Nat} {P : Program} {fn : Func} {tmps : Array Value} {R : Ending → World → Prop} (B : Nat) (Good : World → Prop) (hG : OwnFrom B (fun (_ : Unit) W => Good W)) :
    ∀ (Ds : List Nat) (W : World), Good W → (∀ D ∈ Ds, B ≤ D) → KD Ds W → Ds.Nodup → (∀ W', Good W' → LeavesIn F n P fn tmps R [] .returning W') → LeavesInM F n P fn tmps R (Ds.map markD) .returning W := by
  intro Ds
  induction Ds with
  | nil => intro W hg _ _ _ hend; exact hend W hg
  | cons D Ds ih =>
    intro W hg hB hK hnd hend
    have h0 := hK D List.mem_cons_self
    rw [List.nodup_cons] at hnd
    refine ⟨by simp, .inl ⟨D, _, rfl, run_takeDeferred h0, ih _ ?_ (fun D' h => hB D' (List.mem_cons_of_mem _ h)) ?_ hnd.2 hend⟩⟩
    · exact hG.putObj (s := ()) _ hg (hB D List.mem_cons_self) h0 rfl
    · intro D' hD'
      exact (World.putObj_heap_other (by rintro rfl; exact hnd.1 hD')).trans (hK D' (List.mem_cons_of_mem _ hD'))
end
end Go.Proofs.YtencphfhpnljlaaGreatDoor
