/-
  Framing in plain words: lengths of bodies, chunks, and which body a request has. No program in sight. Framing in plain words: the order of fields, equal lengths, what is written and read back. No program in sight. A loop that cuts a text at each byte of one kind: its state, in plain words. No program in sight. waypostkit.SameInts at two equal lists of numbers. The numbers of lengths: number of the reference, length of the program. The values of a name, and whether a body comes in chunks: the program and the reference. The lengths of a request, by the reference. The lengths of a request, by the program: a range over strings.SplitSeq in a loop. The lengths of a request, by the program: the walk. Which body a request has, by the reference; Lengths and Chunked of the program. Which body a request has, by the program. strconv.FormatInt at base 16, strconv.Itoa: the numerals. written of the reference: the numerals at the bases 10 and 16. Check, Left, Fields, Bytes of framings: the program and the reference. fields, of, status, bytes of the law of framing. of, status, bytes of the law of framing; the chapter's examples that are checked each time (awake).
-/
import Derived.Test.YtpdohlnobbimaaaDoorFd3
import Derived.Test.YtpdohlnobbimaaaDoorKt1
import Derived.Test.YtpdohlnobbimaaaDoorShelfN
import Derived.Test.YtpdohlnobbimaaaDoorTk3
import Derived.Test.YtpdohlnobbimaaaDoorStr
import Derived.Lib.AtoiErrMem
import Derived.Test.YtpdohlnobbimaaaDoorTr3
import Derived.Test.YtpdohlnobbimaaaDoorTr2
import Derived.Test.YtpdohlnobbimaaaDoorTl2
import Derived.Test.YtpdohlnobbimaaaDoorBs4
import Derived.BigQuiet
import Derived.Deep.QuietTactic
import Derived.Test.YtpdohlnobbimaaaDoorMb
import Derived.Test.YtpdohlnobbimaaaDoorFd13
import Derived.Deep.Cut
import Derived.Test.YtpdohlnobbimaaaDoorRows
import Derived.Test.YtpdohlnobbimaaaDoorBase
import Derived.WalkKit
import Derived.WalkSpells
import Derived.WalkLawsBesides
import Derived.Lib.Hide
import Derived.Lib.ItoaMem
import Derived.Lib.AppendIntMem
import Derived.BigCall
import Derived.BigGuard
import Derived.Laws.Bits64b
import Derived.Laws.BitsAllLaws
import Derived.Lib.ItoaWalk
import Derived.Test.YtpdohlnobbimaaaDoorTk5
import Derived.Test.YtpdohlnobbimaaaDoorFd9
namespace Go.Proofs.YtpdohlnobbimaaaDoor

section
open Go.RowKit

/-- Content-Length, Transfer-Encoding, chunked -/
def clN : List UInt8 := [67, 111, 110, 116, 101, 110, 116, 45, 76, 101, 110, 103, 116, 104]
def teN : List UInt8 := [84, 114, 97, 110, 115, 102, 101, 114, 45, 69, 110, 99, 111, 100, 105, 110, 103]
def ckN : List UInt8 := [99, 104, 117, 110, 107, 101, 100]
def digB (b : UInt8) : Bool := decide (48 ≤ b.toNat) && decide (b.toNat ≤ 57)
def decV (l : List UInt8) : Nat := l.foldl (fun a b => 10 * a + (b.toNat - 48)) 0
/-- the number of one length: 1 to 9 digits -/
def lenE (l : List UInt8) : Option Nat := if (decide (1 ≤ l.length) && decide (l.length ≤ 9) && l.all digB) = true then some (decV l) else none
/-- what stands between the commas of values -/
def piecesL (V : List (List UInt8)) : List (List UInt8) := V.flatMap (splitC 44)
def badL (x : List UInt8) : Bool := (lenE (trimL x)).isNone
def pickL (x : List UInt8) : Option Nat := lenE (trimL x)
/-- all lengths, or the error -/
def lensP (P : List (List UInt8)) : List Nat × Nat := if P.any badL then ([], 3) else (P.filterMap pickL, 0)
def lensT (V : List (List UInt8)) : List Nat × Nat := lensP (piecesL V)
/-- whether a body comes in chunks, or the error -/
def chunkT : List (List UInt8) → Bool × Nat
  | [] => (false, 0)
  | [v] => if lowL v == ckN then (true, 0) else (false, 3)
  | _ => (false, 3)
/-- kind, length, status -/
def ofP (L : List Nat) (e : Nat) (c : Bool) (f : Nat) : Nat × Nat × Nat :=
  if e ≠ 0 ∨ f ≠ 0 ∨ (c = true ∧ L ≠ []) then (0, 0, 400)
  else if L.any (fun n => n != L.headD 0) then (0, 0, 400)
  else if c then (3, 0, 0)
  else if L = [] then (1, 0, 0)
  else if 2048 < L.headD 0 then (0, 0, 413)
  else (2, L.headD 0, 0)
def ofT (l : List Fld) : Nat × Nat × Nat := ofP (lensT (valuesL clN l)).1 (lensT (valuesL clN l)).2 (chunkT (valuesL teN l)).1 (chunkT (valuesL teN l)).2

theorem decV_snoc (l : List UInt8) (b : UInt8) : decV (l ++ [b]) = 10 * decV l + (b.toNat - 48) := by simp [decV]
theorem decV_lt (l : List UInt8) (h : l.all digB = true) : decV l < 10 ^ l.length := by
  have key : ∀ k, k ≤ l.length → decV (l.take k) < 10 ^ k := by
    intro k
    induction k with
    | zero => intro _; simp [decV]
    | succ k ih =>
      intro hk
      have hlt : k < l.length := by omega
      rw [List.take_succ_eq_append_getElem hlt, decV_snoc, Nat.pow_succ]
      have h1 := ih (by omega)
      have h2 := List.all_eq_true.1 h l[k] (List.getElem_mem hlt)
      unfold digB at h2
      simp at h2
      omega
  have := key l.length (Nat.le_refl _)
  rwa [List.take_length] at this
theorem pow10_le {k : Nat} (h : k ≤ 9) : 10 ^ k ≤ 1000000000 := Nat.pow_le_pow_right (n := 10) (by omega) h
theorem lenE_some {l : List UInt8} {n : Nat} (h : lenE l = some n) : 1 ≤ l.length ∧ l.length ≤ 9 ∧ l.all digB = true ∧ n = decV l ∧ n < 1000000000 := by
  unfold lenE at h
  split at h
  · rename_i hc
    injection h with h
    simp only [Bool.and_eq_true, decide_eq_true_eq] at hc
    obtain ⟨⟨h1, h2⟩, h3⟩ := hc
    have := decV_lt l h3
    have := pow10_le h2
    exact ⟨h1, h2, h3, h.symm, by omega⟩
  · simp at h
theorem lenE_of {l : List UInt8} (h1 : 1 ≤ l.length) (h2 : l.length ≤ 9) (h3 : l.all digB = true) : lenE l = some (decV l) := by
  unfold lenE; rw [if_pos (by simp [h1, h2, h3])]
theorem lenE_none {l : List UInt8} (h : ¬ (1 ≤ l.length ∧ l.length ≤ 9 ∧ l.all digB = true)) : lenE l = none := by
  unfold lenE
  rw [if_neg]
  intro hc
  simp only [Bool.and_eq_true, decide_eq_true_eq] at hc
  exact h ⟨hc.1.1, hc.1.2, hc.2⟩
theorem pickL_lt {x : List UInt8} {n : Nat} (h : pickL x = some n) : n < 1000000000 := (lenE_some h).2.2.2.2
theorem lensP_len (P : List (List UInt8)) : (lensP P).1.length ≤ P.length ∧ ∀ n ∈ (lensP P).1, n < 1000000000 := by
  unfold lensP
  split
  · simp
  · refine ⟨List.length_filterMap_le _ _, fun n hn => ?_⟩
    obtain ⟨x, _, hx⟩ := List.mem_filterMap.1 hn
    exact pickL_lt hx
theorem pick_all {P : List (List UInt8)} (h : P.any badL = false) : (P.filterMap pickL).length = P.length := by
  induction P with
  | nil => rfl
  | cons x P ih =>
    rw [List.any_cons, Bool.or_eq_false_iff] at h
    unfold badL at h
    rw [List.filterMap_cons]
    cases hx : pickL x with
    | none => unfold pickL at hx; rw [hx] at h; simp at h
    | some n => simp [ih h.2]
theorem pieces_app (V : List (List UInt8)) (v : List UInt8) : piecesL (V ++ [v]) = piecesL V ++ splitC 44 v := by simp [piecesL]
theorem pieces_ne {V : List (List UInt8)} (h : V ≠ []) : piecesL V ≠ [] := by
  cases V with
  | nil => exact absurd rfl h
  | cons v V =>
    unfold piecesL
    rw [List.flatMap_cons]
    intro e
    exact splitC_ne 44 v (List.append_eq_nil_iff.1 e).1
theorem pieces_len (V : List (List UInt8)) (M : Nat) (h : ∀ v ∈ V, v.length ≤ M) : (piecesL V).length ≤ V.length * (M + 1) ∧ ∀ x ∈ piecesL V, x.length ≤ M := by
  induction V with
  | nil => simp [piecesL]
  | cons v V ih =>
    obtain ⟨i1, i2⟩ := ih (fun x hx => h x (List.mem_cons_of_mem _ hx))
    have hv := h v List.mem_cons_self
    obtain ⟨s1, s2⟩ := splitC_len 44 v
    have e : piecesL (v :: V) = splitC 44 v ++ piecesL V := by simp [piecesL]
    rw [e]
    refine ⟨?_, fun x hx => ?_⟩
    · rw [List.length_append, List.length_cons, Nat.succ_mul]
      omega
    · rcases List.mem_append.1 hx with hx | hx
      · exact Nat.le_trans (s2 x hx) hv
      · exact i2 x hx
/-- lengths that are said are numbers -/
theorem lensT_nil {V : List (List UInt8)} (h : (lensT V).2 = 0) : (lensT V).1 = [] ↔ V = [] := by
  constructor
  · intro e
    refine Classical.byContradiction fun hV => ?_
    unfold lensT lensP at e h
    split at h
    · simp at h
    · rename_i hb
      rw [if_neg hb] at e
      have h2 := pick_all (by simpa using hb)
      simp only at e
      rw [e] at h2
      exact pieces_ne hV (List.length_eq_zero_iff.1 h2.symm)
  · rintro rfl
    rfl
end

section
open Go.RowKit

theorem any_ne {L : List Nat} : L.any (fun n => n != L.headD 0) = true ↔ ∃ a ∈ L, ∃ b ∈ L, a ≠ b := by
  constructor
  · intro h
    obtain ⟨a, ha, hn⟩ := List.any_eq_true.1 h
    cases L with
    | nil => simp at ha
    | cons x L => exact ⟨a, ha, x, by simp, by simpa using hn⟩
  · rintro ⟨a, ha, b, hb, hab⟩
    refine Classical.byContradiction fun hc => hab ?_
    have hc' : L.any (fun n => n != L.headD 0) = false := by simpa using hc
    rw [List.any_eq_false] at hc'
    have h1 := hc' a ha
    have h2 := hc' b hb
    simp at h1 h2
    rw [h1, h2]
theorem head_mem {L : List Nat} (h : L ≠ []) : L.headD 0 ∈ L := by
  cases L with
  | nil => exact absurd rfl h
  | cons x L => simp
theorem ofP_mem {L L' : List Nat} (h : ∀ n, n ∈ L ↔ n ∈ L') (e : Nat) (c : Bool) (f : Nat) : ofP L e c f = ofP L' e c f := by
  have h0 : L = [] ↔ L' = [] := by
    constructor
    · rintro rfl
      rw [List.eq_nil_iff_forall_not_mem]
      intro a ha
      have := (h a).2 ha
      simp at this
    · rintro rfl
      rw [List.eq_nil_iff_forall_not_mem]
      intro a ha
      have := (h a).1 ha
      simp at this
  have h1 : L.any (fun n => n != L.headD 0) = L'.any (fun n => n != L'.headD 0) := by
    rw [Bool.eq_iff_iff, any_ne, any_ne]
    simp only [h]
  unfold ofP
  rw [h1]
  by_cases hL : L = []
  · have hL' := h0.1 hL
    subst hL hL'
    rfl
  · have hL' : L' ≠ [] := fun e => hL (h0.2 e)
    cases hA : L'.any (fun n => n != L'.headD 0) with
    | true => simp [hL, hL']
    | false =>
      have e : L.headD 0 = L'.headD 0 := by
        refine Classical.byContradiction fun hne => ?_
        have : L'.any (fun n => n != L'.headD 0) = true := any_ne.2 ⟨L.headD 0, (h _).1 (head_mem hL), L'.headD 0, head_mem hL', hne⟩
        rw [hA] at this
        cases this
      rw [e]
      simp [hL, hL']
theorem pieces_mem {V V' : List (List UInt8)} (h : ∀ v, v ∈ V ↔ v ∈ V') (x : List UInt8) : x ∈ piecesL V ↔ x ∈ piecesL V' := by
  unfold piecesL
  simp only [List.mem_flatMap, h]
theorem any_mem {P P' : List (List UInt8)} (h : ∀ v, v ∈ P ↔ v ∈ P') (p : List UInt8 → Bool) : P.any p = P'.any p := by
  rw [Bool.eq_iff_iff, List.any_eq_true, List.any_eq_true]
  simp only [h]
theorem lensT_mem {V V' : List (List UInt8)} (h : ∀ v, v ∈ V ↔ v ∈ V') : (lensT V).2 = (lensT V').2 ∧ ∀ n, n ∈ (lensT V).1 ↔ n ∈ (lensT V').1 := by
  have hp := pieces_mem h
  have ha := any_mem hp badL
  unfold lensT lensP
  rw [ha]
  split
  · exact ⟨rfl, fun _ => Iff.rfl⟩
  · refine ⟨rfl, fun n => ?_⟩
    simp only [List.mem_filterMap, hp]
theorem chunkT_mem {V V' : List (List UInt8)} (hl : V.length = V'.length) (h : ∀ v, v ∈ V ↔ v ∈ V') : chunkT V = chunkT V' := by
  match V, V', hl with
  | [], [], _ => rfl
  | [v], [v'], _ =>
    have := (h v).1 (by simp)
    simp at this
    rw [this]
  | _ :: _ :: _, _ :: _ :: _, _ => rfl
theorem ofT_mem {l l' : List Fld} (hc : ∀ v, v ∈ valuesL clN l ↔ v ∈ valuesL clN l') (ht : ∀ v, v ∈ valuesL teN l ↔ v ∈ valuesL teN l') (hn : (valuesL teN l).length = (valuesL teN l').length) : ofT l = ofT l' := by
  unfold ofT
  obtain ⟨h1, h2⟩ := lensT_mem hc
  rw [chunkT_mem hn ht, h1]
  exact ofP_mem h2 _ _ _
theorem values_cat (nm : List UInt8) (a b : List Fld) : valuesL nm (a ++ b) = valuesL nm a ++ valuesL nm b := by unfold valuesL; rw [List.filter_append, List.map_append]
theorem values_rev (nm : List UInt8) (a : List Fld) : valuesL nm a.reverse = (valuesL nm a).reverse := by unfold valuesL; rw [List.filter_reverse, List.map_reverse]
theorem ofT_rev (l : List Fld) : ofT l.reverse = ofT l :=
  ofT_mem (fun v => by rw [values_rev, List.mem_reverse]) (fun v => by rw [values_rev, List.mem_reverse]) (by rw [values_rev, List.length_reverse])
/-- what Of gives is valid, or the zero value and a status -/
theorem ofP_ok (L : List Nat) (e : Nat) (c : Bool) (f : Nat) : (ofP L e c f).2.2 = 0 ∧ (((ofP L e c f).1 = 1 ∨ (ofP L e c f).1 = 3) ∧ (ofP L e c f).2.1 = 0 ∨ (ofP L e c f).1 = 2 ∧ (ofP L e c f).2.1 ≤ 2048) ∨ ((ofP L e c f).2.2 = 400 ∨ (ofP L e c f).2.2 = 413) ∧ (ofP L e c f).1 = 0 ∧ (ofP L e c f).2.1 = 0 := by
  unfold ofP
  split
  · exact .inr ⟨.inl rfl, rfl, rfl⟩
  · split
    · exact .inr ⟨.inl rfl, rfl, rfl⟩
    · split
      · exact .inl ⟨rfl, .inl ⟨.inr rfl, rfl⟩⟩
      · split
        · exact .inl ⟨rfl, .inl ⟨.inl rfl, rfl⟩⟩
        · split
          · exact .inr ⟨.inr rfl, rfl, rfl⟩
          · exact .inl ⟨rfl, .inr ⟨rfl, by simp only; omega⟩⟩
/-- the program's way: one field too many of both kinds is an error of its own -/
theorem ofP_both (l : List Fld) : (valuesL teN l ≠ [] ∧ valuesL clN l ≠ [] ∨ (chunkT (valuesL teN l)).2 ≠ 0 ∨ (lensT (valuesL clN l)).2 ≠ 0) ↔ ((lensT (valuesL clN l)).2 ≠ 0 ∨ (chunkT (valuesL teN l)).2 ≠ 0 ∨ ((chunkT (valuesL teN l)).1 = true ∧ (lensT (valuesL clN l)).1 ≠ [])) := by
  have hc : ∀ V, (chunkT V).2 = 0 → ((chunkT V).1 = true ↔ V ≠ []) := by
    intro V
    match V with
    | [] => simp [chunkT]
    | [v] => by_cases h : (lowL v == ckN) = true <;> simp [chunkT, h]
    | _ :: _ :: _ => simp [chunkT]
  generalize valuesL teN l = T at *
  generalize valuesL clN l = C at *
  by_cases h1 : (lensT C).2 = 0
  · by_cases h2 : (chunkT T).2 = 0
    · have := lensT_nil h1
      have h3 := hc T h2
      rw [h3]
      simp only [h1, h2, ne_eq, not_true_eq_false, false_or, or_false]
      rw [this]
    · simp [h2]
  · simp [h1]
end

section
open Go.RowKit

/-- the pieces done, the piece begun, and what the rest is cut into -/
def joinH (cur : List UInt8) : List (List UInt8) → List (List UInt8)
  | [] => [cur]
  | h :: t => (cur ++ h) :: t
theorem joinH_comma (cur l : List UInt8) (c : UInt8) : joinH cur (splitC c (c :: l)) = cur :: splitC c l := by
  rw [splitC, if_pos rfl]; simp [joinH]
theorem joinH_nil (c : UInt8) (l : List UInt8) : joinH [] (splitC c l) = splitC c l := by
  cases h : splitC c l with
  | nil => exact absurd h (splitC_ne c l)
  | cons a t => rfl
theorem joinH_other (cur l : List UInt8) (b c : UInt8) (hb : b ≠ c) : joinH cur (splitC c (b :: l)) = joinH (cur ++ [b]) (splitC c l) := by
  cases h : splitC c l with
  | nil => exact absurd h (splitC_ne c l)
  | cons a t => rw [splitC_step c b l a t hb h]; simp [joinH]
theorem ext_list (s : ByteArray) (a b : Nat) (_hab : a ≤ b) (_hb : b ≤ s.size) : (s.extract a b).data.toList = (s.data.toList.take b).drop a := by
  rw [Lib.extract_data, List.take_drop]
  try (congr 2; omega)
theorem ext_snoc (s : ByteArray) (a k : Nat) (hab : a ≤ k) (hk : k < s.size) : (s.extract a (k + 1)).data.toList = (s.extract a k).data.toList ++ [s[k]] := by
  have hl : k < s.data.toList.length := by rw [size_l]; exact hk
  rw [ext_list s a (k + 1) (by omega) (by omega), ext_list s a k hab (by omega), List.take_succ_eq_append_getElem hl, List.drop_append_of_le_length (by simp; omega)]
  rfl
theorem drop_list (s : ByteArray) (k : Nat) (hk : k < s.size) : s.data.toList.drop k = s[k] :: s.data.toList.drop (k + 1) := by
  rw [List.drop_eq_getElem_cons (by rw [size_l]; exact hk)]; rfl
/-- the state of the cutting loop -/
def CutInv (c : UInt8) (s : ByteArray) (k fr : Nat) (D : List (List UInt8)) : Prop :=
  (k ≤ s.size ∧ fr ≤ k ∧ splitC c s.data.toList = D ++ joinH (s.extract fr k).data.toList (splitC c (s.data.toList.drop k))) ∨ (k = s.size + 1 ∧ splitC c s.data.toList = D)
theorem CutInv.start (c : UInt8) (s : ByteArray) : CutInv c s 0 0 [] := .inl ⟨Nat.zero_le _, Nat.le_refl _, by
  have : (s.extract 0 0).data.toList = [] := by rw [ext_list s 0 0 (Nat.le_refl _) (Nat.zero_le _)]; rfl
  rw [this, List.nil_append, List.drop_zero, joinH_nil]⟩
theorem CutInv.comma {c : UInt8} {s : ByteArray} {k fr : Nat} {D : List (List UInt8)} (h : CutInv c s k fr D) (hk : k < s.size) (hb : s[k] = c) : CutInv c s (k + 1) (k + 1) (D ++ [(s.extract fr k).data.toList]) := by
  rcases h with ⟨_, hf, h⟩ | ⟨h, _⟩
  · refine .inl ⟨by omega, Nat.le_refl _, ?_⟩
    have e0 : (s.extract (k + 1) (k + 1)).data.toList = [] := by rw [ext_list s _ _ (Nat.le_refl _) (by omega)]; simp
    rw [h, drop_list s k hk, hb, joinH_comma, e0, joinH_nil]
    simp
  · omega
theorem CutInv.other {c : UInt8} {s : ByteArray} {k fr : Nat} {D : List (List UInt8)} (h : CutInv c s k fr D) (hk : k < s.size) (hb : s[k] ≠ c) : CutInv c s (k + 1) fr D := by
  rcases h with ⟨_, hf, h⟩ | ⟨h, _⟩
  · refine .inl ⟨by omega, by omega, ?_⟩
    rw [h, drop_list s k hk, joinH_other _ _ _ _ hb, ext_snoc s fr k hf hk]
  · omega
theorem CutInv.last {c : UInt8} {s : ByteArray} {fr : Nat} {D : List (List UInt8)} (h : CutInv c s s.size fr D) : CutInv c s (s.size + 1) (s.size + 1) (D ++ [(s.extract fr s.size).data.toList]) := by
  rcases h with ⟨_, hf, h⟩ | ⟨h, _⟩
  · refine .inr ⟨rfl, ?_⟩
    rw [h, List.drop_eq_nil_of_le (by rw [size_l]; exact Nat.le_refl _)]
    simp [splitC, joinH]
  · omega
theorem CutInv.done {c : UInt8} {s : ByteArray} {k fr : Nat} {D : List (List UInt8)} (h : CutInv c s k fr D) (hk : s.size < k) : splitC c s.data.toList = D := by
  rcases h with ⟨h1, _⟩ | ⟨_, h⟩
  · omega
  · exact h
theorem CutInv.le {c : UInt8} {s : ByteArray} {k fr : Nat} {D : List (List UInt8)} (h : CutInv c s k fr D) (hk : k ≤ s.size) : fr ≤ k := by
  rcases h with ⟨_, h, _⟩ | ⟨h, _⟩
  · exact h
  · omega
end

section
open Go.RowKit

set_option maxRecDepth 100000 in
set_option maxHeartbeats 4000000 in
/-- two lists of the same numbers -/
theorem SameInts_eq (A B : Option Addr) (n c d : Nat) (xs : List Nat) (w : World) (hr : Reads w w.heap.size 1 A n (ints xs)) (ht : Reads w w.heap.size 1 B n (ints xs)) (hn : n ≤ 1000000) :
    Calls Tryd.prog 34 #[.slice A n c, .slice B n d] w fun e w' => e = .returned (.bool true) ∧ Below w.heap.size w w' := by
  have hl := hr.1
  rw [ints_len] at hl
  obtain rfl : xs.length = n := by omega
  have hd : ((xs.length : Int) != (xs.length : Int)) = false := by simp
  have HX := Lib.hid hr
  have HY := Lib.hid ht
  clear hr ht hl
  go_enter Tryd.func34, Tryd.ntmps34
  go_wp2_with fail
  go_loopw [5] (fun i wr => ∃ k j : Nat, i = .int .i64 k ∧ k ≤ xs.length ∧ wr = w.drewN j) (fun i _ => xs.length - (intOf i).toNat)
  case atStart => exact ⟨0, 0, rfl, by omega, rfl⟩
  case round =>
    obtain ⟨k, j, rfl, hk, rfl⟩ := hrel
    by_cases hlt : k < xs.length
    · obtain ⟨b, o, rfl, _, c1⟩ := HX.out.num k hlt
      obtain ⟨b', o', rfl, _, c2⟩ := HY.out.num k hlt
      obtain ⟨x, hx⟩ : ∃ x, xs[k] = x := ⟨_, rfl⟩
      rw [hx] at c1 c2
      have i0 : (0 : Int) ≤ (k : Int) := by omega
      have i1 : (k : Int) < (xs.length : Int) := by omega
      have hq : ((x : Int) != (x : Int)) = false := by simp
      clear hx hd
      go_wp2_with fail
      go_quiet (fail)
      go_wp2_with fail
      exact ⟨⟨k + 1, _, by go_num, by omega, rfl⟩, by simp [intOf]; omega⟩
    · have hkl : k = xs.length := by omega
      subst hkl
      have hd : decide ((xs.length : Int) < (xs.length : Int)) = false := by simp
      go_wp2_with fail
      go_ret
      exact ⟨rfl, rfl, rfl, rfl, Nat.le_refl _, fun _ _ => rfl⟩
end

section
open Go.RowKit

theorem dig_yes {b : UInt8} (h1 : 48 ≤ b.toNat) (h2 : b.toNat ≤ 57) : digB b = true := by simp [digB, h1, h2]
theorem dig_no {b : UInt8} (h : b.toNat < 48 ∨ 57 < b.toNat) : digB b = false := by
  unfold digB
  rcases h with h | h
  · rw [decide_eq_false (by omega)]; rfl
  · rw [decide_eq_false (show ¬ b.toNat ≤ 57 by omega), Bool.and_false]
theorem all_no {l : List UInt8} {k : Nat} (hk : k < l.length) (h : digB l[k] = false) : ¬ l.all digB = true := by
  intro ha
  rw [List.all_eq_true.1 ha _ (List.getElem_mem hk)] at h
  cases h
/-- a length, and whether it is one -/
def numV (l : List UInt8) : Nat := (lenE l).getD 0
def numIs (l : List UInt8) : Bool := (lenE l).isSome
theorem num_none {l : List UInt8} (h : ¬ (1 ≤ l.length ∧ l.length ≤ 9 ∧ l.all digB = true)) : numV l = 0 ∧ numIs l = false := by
  unfold numV numIs; rw [lenE_none h]; exact ⟨rfl, rfl⟩
theorem num_some {l : List UInt8} (h1 : 1 ≤ l.length) (h2 : l.length ≤ 9) (h3 : l.all digB = true) : numV l = decV l ∧ numIs l = true := by
  unfold numV numIs; rw [lenE_of h1 h2 h3]; exact ⟨rfl, rfl⟩

set_option maxRecDepth 100000 in
set_option maxHeartbeats 4000000 in
theorem rNumber (s : ByteArray) (w : World) (hs : s.size ≤ 1000000) :
    Calls Tryd.prog 70 #[.string s] w fun e w' => e = .returned (.tuple #[.int .i64 (numV s.data.toList : Int), .bool (numIs s.data.toList)]) ∧ w = w' := by
  by_cases h1 : s.size < 1
  · obtain ⟨e1, e2⟩ := num_none (l := s.data.toList) (by rw [size_l]; omega)
    rw [e1, e2]
    have d1 : decide ((s.size : Int) < 1) = true := by simp; omega
    clear e1 e2
    go_enter Tryd.func70, Tryd.ntmps70
    go_wp2_with fail
    go_ret2
    exact ⟨rfl, rfl⟩
  by_cases h2 : 9 < s.size
  · obtain ⟨e1, e2⟩ := num_none (l := s.data.toList) (by rw [size_l]; omega)
    rw [e1, e2]
    have d1 : decide ((s.size : Int) < 1) = false := by simp; omega
    have d2 : decide ((9 : Int) < (s.size : Int)) = true := by simp; omega
    clear e1 e2
    go_enter Tryd.func70, Tryd.ntmps70
    go_wp2_with fail
    go_ret2
    exact ⟨rfl, rfl⟩
  have d1 : decide ((s.size : Int) < 1) = false := by simp; omega
  have d2 : decide ((9 : Int) < (s.size : Int)) = false := by simp; omega
  obtain ⟨V, hV⟩ : ∃ V, numV s.data.toList = V := ⟨_, rfl⟩
  obtain ⟨B, hB⟩ : ∃ B, numIs s.data.toList = B := ⟨_, rfl⟩
  rw [hV, hB]
  have HV := Lib.hid (And.intro hV hB)
  clear hV hB
  go_enter Tryd.func70, Tryd.ntmps70
  go_wp2_with fail
  go_loop [4, 5] (fun n i => ∃ k D : Nat, i = .int .i64 k ∧ k ≤ s.size ∧ n = .int .i64 (D : Int) ∧ Hid (D = decV (s.data.toList.take k) ∧ (s.data.toList.take k).all digB = true)) (fun _ i => s.size - (intOf i).toNat)
  case atStart => exact ⟨0, 0, rfl, by omega, rfl, hide (by simp [decV])⟩
  case round =>
    obtain ⟨k, D, rfl, hk, rfl, HD⟩ := hrel
    by_cases hlt : k < s.size
    · have hc := s[k].toNat_lt
      have hl : k < s.data.toList.length := by rw [size_l]; exact hlt
      have hg : s.data.toList[k] = s[k] := rfl
      have htk : s.data.toList.take (k + 1) = s.data.toList.take k ++ [s[k]] := by rw [List.take_succ_eq_append_getElem hl, hg]
      have hDl : D < 1000000000 := by
        rw [HD.out.1]
        have := decV_lt _ HD.out.2
        rw [List.length_take] at this
        exact Nat.lt_of_lt_of_le this (pow10_le (by omega))
      have hno := fun h => num_none (l := s.data.toList) (fun hh => all_no hl (dig_no (by rw [hg]; exact h)) hh.2.2)
      have hyes := fun (h : 48 ≤ s[k].toNat ∧ s[k].toNat ≤ 57) => dig_yes h.1 h.2
      have hsn := decV_snoc (s.data.toList.take k) s[k]
      rw [← htk] at hsn
      have hall : (s.data.toList.take k).all digB = true → digB s[k] = true → (s.data.toList.take (k + 1)).all digB = true := by
        intro a b; rw [htk]; simp [a, b]
      have HH := Lib.hid (And.intro hno (And.intro hyes (And.intro hsn hall)))
      clear hno hyes hsn hall htk hg
      obtain ⟨c, hcc⟩ : ∃ c, s[k].toNat = c := ⟨_, rfl⟩
      rw [hcc] at hc HH
      by_cases c1 : c < 48
      · have g1 : decide ((s[k].toNat : Int) < 48) = true := by rw [hcc]; simp; omega
        obtain ⟨e1, e2⟩ := HH.out.1 (.inl c1)
        obtain ⟨f1, f2⟩ := HV.out
        rw [e1] at f1
        rw [e2] at f2
        subst f1 f2
        clear HH e1 e2
        go_wp2_with fail
        go_ret2
        exact ⟨rfl, rfl⟩
      · have g1 : decide ((s[k].toNat : Int) < 48) = false := by rw [hcc]; simp; omega
        by_cases c2 : 57 < c
        · have g2 : decide ((57 : Int) < (s[k].toNat : Int)) = true := by rw [hcc]; simp; omega
          obtain ⟨e1, e2⟩ := HH.out.1 (.inr c2)
          obtain ⟨f1, f2⟩ := HV.out
          rw [e1] at f1
          rw [e2] at f2
          subst f1 f2
          clear HH e1 e2
          go_wp2_with fail
          go_ret2
          exact ⟨rfl, rfl⟩
        · have g2 : decide ((57 : Int) < (s[k].toNat : Int)) = false := by rw [hcc]; simp; omega
          have w1 : IntKind.u8.wrap ((s[k].toNat : Int) - 48) = (s[k].toNat : Int) - 48 := by rw [hcc, IntKind.wrap_u8]; omega
          have w2 : IntKind.i64.wrap ((s[k].toNat : Int) - 48) = (s[k].toNat : Int) - 48 := by rw [hcc, IntKind.wrap_i64]; omega
          have w3 : IntKind.i64.wrap (10 * (D : Int)) = 10 * (D : Int) := by rw [IntKind.wrap_i64]; omega
          have w4 : IntKind.i64.wrap (10 * (D : Int) + ((s[k].toNat : Int) - 48)) = ((10 * D + (c - 48) : Nat) : Int) := by rw [hcc, IntKind.wrap_i64]; omega
          have HN : Hid (10 * D + (c - 48) = decV (s.data.toList.take (k + 1)) ∧ (s.data.toList.take (k + 1)).all digB = true) := by
            refine ⟨?_, HH.out.2.2.2 HD.out.2 (HH.out.2.1 ⟨by omega, by omega⟩)⟩
            rw [HH.out.2.2.1, HD.out.1]
          have he : (10 * (D : Int) + ((c : Int) - 48)) = ((10 * D + (c - 48) : Nat) : Int) := by omega
          generalize 10 * D + (c - 48) = D' at w4 HN he
          have HE := Lib.hid he
          clear he
          clear HH
          go_wp2_with fail
          exact ⟨⟨k + 1, D', by go_num, by omega, by rw [← HE.out], HN⟩, by simp [intOf]; omega⟩
    · have hkl : k = s.size := by omega
      subst hkl
      have hd : decide ((s.size : Int) < (s.size : Int)) = false := by simp
      obtain ⟨f1, f2⟩ := HV.out
      have hD := HD.out
      rw [List.take_of_length_le (by rw [size_l]; omega)] at hD
      obtain ⟨e1, e2⟩ := num_some (l := s.data.toList) (by rw [size_l]; omega) (by rw [size_l]; omega) hD.2
      rw [e1, ← hD.1] at f1
      rw [e2] at f2
      subst f1 f2
      clear hD e1 e2
      go_wp2_with fail
      go_ret2
      exact ⟨rfl, rfl⟩

theorem dec_atoi (l : List UInt8) (h1 : 1 ≤ l.length) (h : l.all digB = true) : Lib.atoi l = some ((decV l : Nat) : Int) := by
  have key : ∀ k, k ≤ l.length → Lib.decFrom 0 (l.take k) = some (decV (l.take k)) := by
    intro k
    induction k with
    | zero => intro _; rfl
    | succ k ih =>
      intro hk
      have hlt : k < l.length := by omega
      have hd := List.all_eq_true.1 h l[k] (List.getElem_mem hlt)
      unfold digB at hd
      simp at hd
      have := Lib.decFrom_take l k 0 _ l[k] (l[k].toNat - 48) (ih (by omega)) (by simp [hlt]) (by unfold Lib.digitVal; rw [if_pos hd])
      rw [this, List.take_succ_eq_append_getElem hlt, decV_snoc]
      congr 1
      omega
  have hk := key l.length (Nat.le_refl _)
  rw [List.take_length] at hk
  cases l with
  | nil => simp at h1
  | cons b r =>
    have hb := List.all_eq_true.1 h b (by simp)
    unfold digB at hb
    simp at hb
    have n1 : (b == 45) = false := beq_eq_false_iff_ne.2 (fun e => by subst e; simp at hb)
    have n2 : (b == 43) = false := beq_eq_false_iff_ne.2 (fun e => by subst e; simp at hb)
    unfold Lib.atoi
    simp only [n1, n2]
    unfold Lib.decNat
    rw [hk]
    rfl
theorem Pred_dig (c : Nat) (w : World) : Calls Tryd.prog 101 #[.int .u8 (c : Int)] w fun e w' => e = .returned (.bool (decide (c < 48) || decide (57 < c))) ∧ w = w' := by
  obtain ⟨R, hR⟩ : ∃ R, (decide (c < 48) || decide (57 < c)) = R := ⟨_, rfl⟩
  rw [hR]
  by_cases c1 : c < 48
  · have g1 : decide ((c : Int) < 48) = true := by simp; omega
    have hr : R = true := by rw [← hR, decide_eq_true c1]; rfl
    subst hr
    clear hR c1
    go_enter Tryd.func101, Tryd.ntmps101
    go_wp2_with fail
    go_ret
    exact ⟨rfl, rfl⟩
  · have g1 : decide ((c : Int) < 48) = false := by simp; omega
    by_cases c2 : 57 < c
    · have g2 : decide ((57 : Int) < (c : Int)) = true := by simp; omega
      have hr : R = true := by rw [← hR, decide_eq_true c2, Bool.or_true]
      subst hr
      clear hR c1 c2
      go_enter Tryd.func101, Tryd.ntmps101
      go_wp2_with fail
      go_ret
      exact ⟨rfl, rfl⟩
    · have g2 : decide ((57 : Int) < (c : Int)) = false := by simp; omega
      have hr : R = false := by rw [← hR, decide_eq_false c2, decide_eq_false c1]; rfl
      subst hr
      clear hR c1 c2
      go_enter Tryd.func101, Tryd.ntmps101
      go_wp2_with fail
      go_ret
      exact ⟨rfl, rfl⟩
/-- slices.IndexFunc at the bytes of a text, with the test for digits -/
theorem IndexDig (g cap : Nat) (s : ByteArray) (w : World) (hs : s.size ≤ 1000000) (hc : ∀ j (h : j < s.size), w.cell? ⟨g, j, none⟩ = some (.int .u8 (s[j].toNat : Int))) :
    Calls Tryd.prog 100 #[.slice (some ⟨g, 0, none⟩) s.size cap, .func (.func 101) #[] #[]] w fun e w' => (∃ r : Int, e = .returned (.int .i64 r) ∧ decide (0 ≤ r) = !s.data.toList.all digB) ∧ w = w' := by
  obtain ⟨R, hR⟩ : ∃ R, s.data.toList.all digB = R := ⟨_, rfl⟩
  rw [hR]
  have HR := Lib.hid hR
  have HC := Lib.hid hc
  have CP := Lib.hid Pred_dig
  clear hc hR
  go_enter Tryd.func100, Tryd.ntmps100
  go_wp2_with fail
  go_loop [8] (fun i => ∃ k : Nat, i = .int .i64 k ∧ k ≤ s.size ∧ Hid ((s.data.toList.take k).all digB = true)) (fun i => s.size - (intOf i).toNat)
  case atStart => exact ⟨0, rfl, by omega, hide (by simp)⟩
  case round =>
    obtain ⟨k, rfl, hk, HD⟩ := hrel
    by_cases hlt : k < s.size
    · have q0 := HC.out k hlt
      obtain ⟨b, hb⟩ : ∃ b, s[k] = b := ⟨_, rfl⟩
      have hl : k < s.data.toList.length := by rw [size_l]; exact hlt
      have hg : s.data.toList[k] = b := hb
      have htk : s.data.toList.take (k + 1) = s.data.toList.take k ++ [b] := by rw [List.take_succ_eq_append_getElem hl, hg]
      rw [hb] at q0
      have cP := CP.out b.toNat
      by_cases hd : 48 ≤ b.toNat ∧ b.toNat ≤ 57
      · have hn : Hid ((s.data.toList.take (k + 1)).all digB = true) := by
          show _ = _
          rw [htk]
          simp [HD.out, dig_yes hd.1 hd.2]
        rw [decide_eq_false (show ¬ b.toNat < 48 by omega), decide_eq_false (show ¬ 57 < b.toNat by omega)] at cP
        have CQ := Lib.hid cP
        clear cP hd htk hg hb hl
        go_wp2_with (go_at_call 101; (with_reducible refine (CQ.out _).mono ?_); rintro e w' ⟨rfl, rfl⟩)
        exact ⟨⟨k + 1, by go_num, by omega, hn⟩, by simp [intOf]; omega⟩
      · have hno : R = false := by
          rw [← HR.out]
          have := all_no hl (by rw [hg]; exact dig_no (by omega))
          cases hx : s.data.toList.all digB
          · rfl
          · exact absurd hx this
        subst hno
        have hor : (decide (b.toNat < 48) || decide (57 < b.toNat)) = true := by
          by_cases h : b.toNat < 48
          · rw [decide_eq_true h]; rfl
          · rw [decide_eq_true (show 57 < b.toNat by omega), Bool.or_true]
        rw [hor] at cP
        have CQ := Lib.hid cP
        clear cP hd htk hg hb hl hor
        go_wp2_with (go_at_call 101; (with_reducible refine (CQ.out _).mono ?_); rintro e w' ⟨rfl, rfl⟩)
        go_ret
        exact ⟨⟨_, rfl, by simp⟩, rfl⟩
    · have hkl : k = s.size := by omega
      subst hkl
      have hd : decide ((s.size : Int) < (s.size : Int)) = false := by simp
      have hD : R = true := by
        have := HD.out
        rw [List.take_of_length_le (by rw [size_l]; omega)] at this
        rw [← HR.out, this]
      subst hD
      go_wp2_with fail
      go_ret
      exact ⟨⟨_, rfl, by simp⟩, rfl⟩

set_option maxRecDepth 100000 in
set_option maxHeartbeats 4000000 in
theorem pLength (s : ByteArray) (w : World) (hs : s.size ≤ 1000000) :
    Calls Tryd.prog 88 #[.string s] w fun e w' => e = .returned (.tuple #[.int .i64 (numV s.data.toList : Int), .bool (numIs s.data.toList)]) ∧ Below w.heap.size w w' := by
  obtain ⟨cap, w1, hr, hb1, hsz, hbi, hfz⟩ := bytes_of_string (P := Tryd.prog) 9 110 5 Tryd.underlying9 Tryd.underlying110 Tryd.underlying5 w s
  have CI := Lib.hid (IndexDig w.heap.size cap s w1 hs hbi)
  have HB := Lib.hid hb1
  clear hbi hfz hb1
  obtain ⟨V, hV⟩ : ∃ V, numV s.data.toList = V := ⟨_, rfl⟩
  obtain ⟨B, hB⟩ : ∃ B, numIs s.data.toList = B := ⟨_, rfl⟩
  rw [hV, hB]
  have HV := Lib.hid (And.intro hV hB)
  clear hV hB
  go_enter Tryd.func88, Tryd.ntmps88
  go_wp2_with fail
  (with_reducible refine (CI.out).mono ?_); rintro e w2 ⟨⟨r, rfl, h0⟩, rfl⟩
  cases ha : s.data.toList.all digB with
  | false =>
    obtain ⟨e1, e2⟩ := num_none (l := s.data.toList) (by rw [ha]; simp)
    obtain ⟨f1, f2⟩ := HV.out
    rw [e1] at f1
    rw [e2] at f2
    subst f1 f2
    rw [ha] at h0
    have d0 : decide ((0 : Int) ≤ r) = true := h0
    clear h0 ha e1 e2
    go_wp2_with fail
    go_ret2
    exact ⟨rfl, HB.out⟩
  | true =>
    rw [ha] at h0
    have d0 : decide ((0 : Int) ≤ r) = false := h0
    clear h0
    by_cases h1 : s.size < 1
    · obtain ⟨e1, e2⟩ := num_none (l := s.data.toList) (by rw [size_l]; omega)
      obtain ⟨f1, f2⟩ := HV.out
      rw [e1] at f1
      rw [e2] at f2
      subst f1 f2
      have d1 : decide ((s.size : Int) < 1) = true := by simp; omega
      clear ha e1 e2
      go_wp2_with fail
      go_ret2
      exact ⟨rfl, HB.out⟩
    by_cases h2 : 9 < s.size
    · obtain ⟨e1, e2⟩ := num_none (l := s.data.toList) (by rw [size_l]; omega)
      obtain ⟨f1, f2⟩ := HV.out
      rw [e1] at f1
      rw [e2] at f2
      subst f1 f2
      have d1 : decide ((s.size : Int) < 1) = false := by simp; omega
      have d2 : decide ((9 : Int) < (s.size : Int)) = true := by simp; omega
      clear ha e1 e2
      go_wp2_with fail
      go_ret2
      exact ⟨rfl, HB.out⟩
    have d1 : decide ((s.size : Int) < 1) = false := by simp; omega
    have d2 : decide ((9 : Int) < (s.size : Int)) = false := by simp; omega
    obtain ⟨e1, e2⟩ := num_some (l := s.data.toList) (by rw [size_l]; omega) (by rw [size_l]; omega) ha
    have CA := Lib.hid (fun w => Tryd.strconv_Atoi s _ (by omega) (dec_atoi _ (by rw [size_l]; omega) ha) w)
    obtain ⟨D, hD⟩ : ∃ D, decV s.data.toList = D := ⟨_, rfl⟩
    rw [hD] at e1 CA
    obtain ⟨f1, f2⟩ := HV.out
    rw [e1] at f1
    rw [e2] at f2
    subst f1 f2
    clear hD
    clear ha e1 e2
    go_wp2_with fail
    (with_reducible refine (CA.out _).mono ?_); rintro e w3 ⟨rfl, t, rfl⟩
    have hb3 := HB.out.trans ((Lib.bytesWorld_below w1 5 t).mono HB.out.size)
    generalize Lib.bytesWorld w1 5 t = w3 at hb3 ⊢
    go_wp2_with fail
    go_ret2
    exact ⟨rfl, hb3⟩
end

section
open Go.RowKit

theorem values_low {a b : List UInt8} (h : lowL a = lowL b) (l : List Fld) : valuesL a l = valuesL b l := by
  unfold valuesL sameN
  rw [h]

set_option maxRecDepth 100000 in
set_option maxHeartbeats 4000000 in
theorem fNamed (A : Option Addr) (n c : Nat) (l : List Fld) (nm : ByteArray) (w : World) (hr : Reads w w.heap.size 2 A n (fldsC l)) (hn : n ≤ 100000) (hl : fldsOk l) (hnm : nm.size ≤ 9223372036854775807) :
    Calls Tryd.prog 67 #[.agg #[.slice A n c], .string nm] w (TextsPost (valuesL nm.data.toList l) w) := by
  obtain rfl := hr.flen
  have HR := Lib.hid hr
  have HL := Lib.hid hl
  clear hr hl
  have hb0 : Below w.heap.size w (w.alloc (.cells #[.slice A l.length c] 94)) := (Below.refl _ _).alloc (Nat.le_refl _) _
  have HB0 := Lib.hid hb0
  clear hb0
  go_enter Tryd.func67, Tryd.ntmps67
  go_wp2_with fail
  go_loopw [5, 11] (fun o i wr => ∃ k : Nat, i = .int .i64 k ∧ k ≤ l.length ∧ Hid (wr.ownsRow w.heap.size 9 1 o (valuesL nm.data.toList (l.take k)).length (strs (valuesL nm.data.toList (l.take k)))) ∧ Below w.heap.size w wr) (fun _ i _ => l.length - (intOf i).toNat)
  case atStart => exact ⟨0, rfl, by omega, World.ownsRow_nil _ _ _ _, HB0.out⟩
  case round =>
    obtain ⟨k, rfl, hk, HO, hb⟩ := hrel
    rename World => W0
    by_cases hlt : k < l.length
    · obtain ⟨b, o, rfl, hbl, q0, q1⟩ := HR.out.fld k hlt
      have c0 := (hb.cell (p := ⟨b, o + k * 2, none⟩) hbl).trans q0
      have c1 := (hb.cell (p := ⟨b, o + k * 2 + 1, none⟩) hbl).trans q1
      obtain ⟨f, hf⟩ : ∃ f, l[k] = f := ⟨_, rfl⟩
      have hok := HL.out l[k] (List.getElem_mem hlt)
      rw [hf] at c0 c1 hok
      have htk := take_snoc_of hlt hf
      have hnl := valuesL_len nm.data.toList (l.take k)
      rw [List.length_take] at hnl
      have cS := fun w => TSame_any (bs f.1) nm w (by rw [bs_size]; omega) (by omega)
      rw [bs_list] at cS
      have kB := Lib.hid (Blk.new W0 36 #[.string (bs f.1), .string (bs f.2)])
      rcases Bool.eq_false_or_eq_true (sameN nm.data.toList f) with hs | hs
      · have hN := valuesL_app nm.data.toList (l.take k) f
        rw [← htk, hs, if_pos rfl] at hN
        have hs' : (lowL f.1 == lowL nm.data.toList) = true := hs
        rw [hs'] at cS
        have CS := Lib.hid cS
        have HN := Lib.hid hN
        clear q0 q1 cS hf htk hs hs' hN hok
        go_wp2_with fail
        (with_reducible refine (CS.out _).mono ?_); rintro e w1 ⟨rfl, hb1⟩
        have hbX := (hb.alloc hb.size _).trans (hb1.mono (by have := hb.size; simp; omega))
        have hbA : Below W0.heap.size W0 w1 := ((Below.refl _ _).alloc (Nat.le_refl _) _).trans (hb1.mono (by simp))
        have d1 : w1.cell? ⟨W0.heap.size, 1, none⟩ = some (.string (bs f.2)) := (kB.out.below hb1 kB.out.lt).cell 1
        obtain ⟨v', w5, hrun, hown, hb5, _⟩ := app_txt (own_below HO.out hbA) hbX.size (by omega) f.2
        have HO' : Hid (w5.ownsRow w.heap.size 9 1 v' (valuesL nm.data.toList (l.take (k + 1))).length (strs (valuesL nm.data.toList (l.take (k + 1))))) := by
          show w5.ownsRow _ _ _ _ _ _
          rw [HN.out]; exact hown
        have HRUN := Lib.hid hrun
        have hbY := hbX.trans hb5
        clear hrun hown hb5 hb1 hbA hbX c0 c1
        go_wp2_with (at_builtin; refine wpList_append_run HRUN.out rfl _ _ rfl rfl rfl rfl ?_)
        go_roundw
        case rel => exact ⟨k + 1, by go_num, by omega, HO', hbY⟩
        case measure => simp [intOf]; omega
      · have hN := valuesL_app nm.data.toList (l.take k) f
        rw [← htk, hs, if_neg (by simp), List.append_nil] at hN
        have hs' : (lowL f.1 == lowL nm.data.toList) = false := hs
        rw [hs'] at cS
        have CS := Lib.hid cS
        have HN := Lib.hid hN
        clear q0 q1 cS hf htk hs hs' hN hok
        go_wp2_with fail
        (with_reducible refine (CS.out _).mono ?_); rintro e w1 ⟨rfl, hb1⟩
        have hbX := (hb.alloc hb.size _).trans (hb1.mono (by have := hb.size; simp; omega))
        have hbA : Below W0.heap.size W0 w1 := ((Below.refl _ _).alloc (Nat.le_refl _) _).trans (hb1.mono (by simp))
        have HO' : Hid (w1.ownsRow w.heap.size 9 1 u5 (valuesL nm.data.toList (l.take (k + 1))).length (strs (valuesL nm.data.toList (l.take (k + 1))))) := by
          show w1.ownsRow _ _ _ _ _ _
          rw [HN.out]; exact own_below HO.out hbA
        clear hb1 hbA c0 c1
        go_wp2_with fail
        go_roundw
        case rel => exact ⟨k + 1, by go_num, by omega, HO', hbX⟩
        case measure => simp [intOf]; omega
    · have hkl : k = l.length := by omega
      subst hkl
      have hd2 : decide ((l.length : Int) < (l.length : Int)) = false := by simp
      have ho := HO.out
      rw [List.take_length] at ho
      obtain ⟨A', cap, rfl⟩ := own_slice ho
      have HO2 := Lib.hid ho
      clear ho
      go_wp2_with fail
      go_ret
      exact ⟨A', cap, rfl, own_capA HO2.out, Reads.of_own HO2.out, hb⟩

set_option maxRecDepth 100000 in
set_option maxHeartbeats 4000000 in
theorem rValues (A : Option Addr) (n c : Nat) (l : List Fld) (nm : ByteArray) (w : World) (hr : Reads w w.heap.size 2 A n (fldsC l)) (hn : n ≤ 100000) (hl : fldsOk l) (hnm : nm.size ≤ 100000) :
    Calls Tryd.prog 69 #[.slice A n c, .string nm] w (TextsPost (valuesL nm.data.toList l) w) := by
  obtain rfl := hr.flen
  have HR := Lib.hid hr
  have HL := Lib.hid hl
  clear hr hl
  go_enter Tryd.func69, Tryd.ntmps69
  go_wp2_with fail
  go_loopw [5, 6] (fun o i wr => ∃ k : Nat, i = .int .i64 k ∧ k ≤ l.length ∧ Hid (wr.ownsRow w.heap.size 9 1 o (valuesL nm.data.toList (l.take k)).length (strs (valuesL nm.data.toList (l.take k)))) ∧ Below w.heap.size w wr) (fun _ i _ => l.length - (intOf i).toNat)
  case atStart => exact ⟨0, rfl, by omega, World.ownsRow_nil _ _ _ _, Below.refl _ _⟩
  case round =>
    obtain ⟨k, rfl, hk, HO, hb⟩ := hrel
    rename World => W0
    by_cases hlt : k < l.length
    · obtain ⟨b, o, rfl, hbl, q0, q1⟩ := HR.out.fld k hlt
      have c0 := (hb.cell (p := ⟨b, o + k * 2, none⟩) hbl).trans q0
      have c1 := (hb.cell (p := ⟨b, o + k * 2 + 1, none⟩) hbl).trans q1
      obtain ⟨f, hf⟩ : ∃ f, l[k] = f := ⟨_, rfl⟩
      have hok := HL.out l[k] (List.getElem_mem hlt)
      rw [hf] at c0 c1 hok
      have htk := take_snoc_of hlt hf
      have hnl := valuesL_len nm.data.toList (l.take k)
      rw [List.length_take] at hnl
      have cS := fun w => rSame (bs f.1) nm w (by rw [bs_size]; omega) (by omega)
      rw [bs_list] at cS
      rcases Bool.eq_false_or_eq_true (sameN nm.data.toList f) with hs | hs
      · have hN := valuesL_app nm.data.toList (l.take k) f
        rw [← htk, hs, if_pos rfl] at hN
        have hs' : (lowL f.1 == lowL nm.data.toList) = true := hs
        rw [hs'] at cS
        have CS := Lib.hid cS
        have HN := Lib.hid hN
        have HC := Lib.hid c1
        clear q0 q1 cS hf htk hs hs' hN hok c1
        go_wp2_with fail
        (with_reducible refine (CS.out _).mono ?_); rintro e w1 ⟨rfl, hb1⟩
        have hbX := hb.trans (hb1.mono hb.size)
        have d1 := (hb1.cell (p := ⟨b, o + k * 2 + 1, none⟩) (Nat.lt_of_lt_of_le hbl hb.size)).trans HC.out
        obtain ⟨v', w5, hrun, hown, hb5, _⟩ := app_txt (own_below HO.out hb1) hbX.size (by omega) f.2
        have HO' : Hid (w5.ownsRow w.heap.size 9 1 v' (valuesL nm.data.toList (l.take (k + 1))).length (strs (valuesL nm.data.toList (l.take (k + 1))))) := by
          show w5.ownsRow _ _ _ _ _ _
          rw [HN.out]; exact hown
        have HRUN := Lib.hid hrun
        have hbY := hbX.trans hb5
        clear hrun hown hb5 hb1 hbX
        go_wp2_with (at_builtin; refine wpList_append_run HRUN.out rfl _ _ rfl rfl rfl rfl ?_)
        go_roundw
        case rel => exact ⟨k + 1, by go_num, by omega, HO', hbY⟩
        case measure => simp [intOf]; omega
      · have hN := valuesL_app nm.data.toList (l.take k) f
        rw [← htk, hs, if_neg (by simp), List.append_nil] at hN
        have hs' : (lowL f.1 == lowL nm.data.toList) = false := hs
        rw [hs'] at cS
        have CS := Lib.hid cS
        have HN := Lib.hid hN
        clear q0 q1 cS hf htk hs hs' hN hok
        go_wp2_with fail
        (with_reducible refine (CS.out _).mono ?_); rintro e w1 ⟨rfl, hb1⟩
        have hbX := hb.trans (hb1.mono hb.size)
        have HO' : Hid (w1.ownsRow w.heap.size 9 1 u5 (valuesL nm.data.toList (l.take (k + 1))).length (strs (valuesL nm.data.toList (l.take (k + 1))))) := by
          show w1.ownsRow _ _ _ _ _ _
          rw [HN.out]; exact own_below HO.out hb1
        clear hb1
        go_wp2_with fail
        go_roundw
        case rel => exact ⟨k + 1, by go_num, by omega, HO', hbX⟩
        case measure => simp [intOf]; omega
    · have hkl : k = l.length := by omega
      subst hkl
      have hd2 : decide ((l.length : Int) < (l.length : Int)) = false := by simp
      have ho := HO.out
      rw [List.take_length] at ho
      obtain ⟨A', cap, rfl⟩ := own_slice ho
      have HO2 := Lib.hid ho
      clear ho
      go_wp2_with fail
      go_ret
      exact ⟨A', cap, rfl, own_capA HO2.out, Reads.of_own HO2.out, hb⟩

set_option maxRecDepth 100000 in
set_option maxHeartbeats 4000000 in
theorem pChunked (A : Option Addr) (n c : Nat) (l : List Fld) (w : World) (hr : Reads w w.heap.size 2 A n (fldsC l)) (hn : n ≤ 100000) (hl : fldsOk l) :
    Calls Tryd.prog 65 #[.agg #[.slice A n c]] w fun e w' => e = .returned (.tuple #[.bool (chunkT (valuesL teN l)).1, .int .i64 ((chunkT (valuesL teN l)).2 : Nat)]) ∧ Below w.heap.size w w' := by
  obtain rfl := hr.flen
  have hb0 : Below w.heap.size w (w.alloc (.cells #[.slice A l.length c] 96)) := (Below.refl _ _).alloc (Nat.le_refl _) _
  have cN := fNamed A l.length c l ⟨#[84, 114, 97, 110, 115, 102, 101, 114, 45, 69, 110, 99, 111, 100, 105, 110, 103]⟩ (w.alloc (.cells #[.slice A l.length c] 96)) ((hr.below hb0).more hb0.size) hn hl (by decide)
  unfold TextsPost at cN
  rw [show (⟨#[84, 114, 97, 110, 115, 102, 101, 114, 45, 69, 110, 99, 111, 100, 105, 110, 103]⟩ : ByteArray).data.toList = teN from rfl] at cN
  have hv : ∀ v ∈ valuesL teN l, v.length ≤ 100000 := fun v hv => by
    unfold valuesL at hv
    obtain ⟨f, hf, rfl⟩ := List.mem_map.1 hv
    exact (hl f (List.mem_filter.1 hf).1).2
  have hvl := valuesL_len teN l
  obtain ⟨V, hV⟩ : ∃ V, valuesL teN l = V := ⟨_, rfl⟩
  rw [hV] at cN hv hvl ⊢
  have CN := Lib.hid cN
  have HB0 := Lib.hid hb0
  clear cN hr hl hb0 hV
  match V, hv, hvl with
  | [], _, _ =>
    go_enter Tryd.func65, Tryd.ntmps65
    go_wp2_with fail
    (with_reducible refine (CN.out).mono ?_); rintro e w1 ⟨A1, q1, rfl, _, hr1, hb1⟩
    have hbX := HB0.out.trans (hb1.mono HB0.out.size)
    go_wp2_with fail
    go_ret2
    exact ⟨rfl, hbX⟩
  | [v], hv, _ =>
    have hvs := hv v (by simp)
    have cS := fun w => TSame_any (bs v) ⟨#[99, 104, 117, 110, 107, 101, 100]⟩ w (by rw [bs_size]; omega) (by decide)
    rw [bs_list, show lowL (⟨#[99, 104, 117, 110, 107, 101, 100]⟩ : ByteArray).data.toList = ckN from by decide] at cS
    have hc : chunkT [v] = if lowL v == ckN then (true, 0) else (false, 3) := rfl
    rw [hc]
    cases hx : (lowL v == ckN) with
    | true =>
      rw [hx] at cS
      have CS := Lib.hid cS
      clear cS hx hc
      go_enter Tryd.func65, Tryd.ntmps65
      go_wp2_with fail
      (with_reducible refine (CN.out).mono ?_); rintro e w1 ⟨A1, q1, rfl, _, hr1, hb1⟩
      have hbX := HB0.out.trans (hb1.mono HB0.out.size)
      obtain ⟨b, o, rfl, _, c0⟩ := hr1.text 0 (by simp)
      have c0' : w1.cell? ⟨b, o, none⟩ = some (.string (bs v)) := c0
      clear hr1 hb1 c0
      go_wp2_with fail
      (with_reducible refine (CS.out _).mono ?_); rintro e w2 ⟨rfl, hb2⟩
      have hbY := hbX.trans (hb2.mono hbX.size)
      go_wp2_with fail
      go_ret2
      exact ⟨rfl, hbY⟩
    | false =>
      rw [hx] at cS
      have CS := Lib.hid cS
      clear cS hx hc
      go_enter Tryd.func65, Tryd.ntmps65
      go_wp2_with fail
      (with_reducible refine (CN.out).mono ?_); rintro e w1 ⟨A1, q1, rfl, _, hr1, hb1⟩
      have hbX := HB0.out.trans (hb1.mono HB0.out.size)
      obtain ⟨b, o, rfl, _, c0⟩ := hr1.text 0 (by simp)
      have c0' : w1.cell? ⟨b, o, none⟩ = some (.string (bs v)) := c0
      clear hr1 hb1 c0
      go_wp2_with fail
      (with_reducible refine (CS.out _).mono ?_); rintro e w2 ⟨rfl, hb2⟩
      have hbY := hbX.trans (hb2.mono hbX.size)
      go_wp2_with fail
      go_ret2
      exact ⟨rfl, hbY⟩
  | v1 :: v2 :: r, _, hvl =>
    have d1 : (((v1 :: v2 :: r).length : Int) == 0) = false := beq_eq_false_iff_ne.2 (by simp; omega)
    have d2 : decide ((1 : Int) < ((v1 :: v2 :: r).length : Int)) = true := by simp; omega
    have hc : chunkT (v1 :: v2 :: r) = (false, 3) := rfl
    rw [hc]
    generalize (v1 :: v2 :: r).length = N at *
    clear hc
    go_enter Tryd.func65, Tryd.ntmps65
    go_wp2_with fail
    (with_reducible refine (CN.out).mono ?_); rintro e w1 ⟨A1, q1, rfl, _, hr1, hb1⟩
    have hbX := HB0.out.trans (hb1.mono HB0.out.size)
    go_wp2_with fail
    go_ret2
    exact ⟨rfl, hbX⟩
set_option maxRecDepth 100000 in
set_option maxHeartbeats 4000000 in
theorem rChunked (A : Option Addr) (n c : Nat) (l : List Fld) (w : World) (hr : Reads w w.heap.size 2 A n (fldsC l)) (hn : n ≤ 100000) (hl : fldsOk l) :
    Calls Tryd.prog 44 #[.slice A n c] w fun e w' => e = .returned (.tuple #[.bool (chunkT (valuesL teN l)).1, .int .i64 ((chunkT (valuesL teN l)).2 : Nat)]) ∧ Below w.heap.size w w' := by
  obtain rfl := hr.flen
  have cN := rValues A l.length c l ⟨#[116, 114, 97, 110, 115, 102, 101, 114, 45, 101, 110, 99, 111, 100, 105, 110, 103]⟩ w hr hn hl (by decide)
  unfold TextsPost at cN
  rw [values_low (show lowL (⟨#[116, 114, 97, 110, 115, 102, 101, 114, 45, 101, 110, 99, 111, 100, 105, 110, 103]⟩ : ByteArray).data.toList = lowL teN by decide)] at cN
  have hv : ∀ v ∈ valuesL teN l, v.length ≤ 100000 := fun v hv => by
    unfold valuesL at hv
    obtain ⟨f, hf, rfl⟩ := List.mem_map.1 hv
    exact (hl f (List.mem_filter.1 hf).1).2
  have hvl := valuesL_len teN l
  obtain ⟨V, hV⟩ : ∃ V, valuesL teN l = V := ⟨_, rfl⟩
  rw [hV] at cN hv hvl ⊢
  have CN := Lib.hid cN
  clear cN hr hl hV
  match V, hv, hvl with
  | [], _, _ =>
    go_enter Tryd.func44, Tryd.ntmps44
    go_wp2_with fail
    (with_reducible refine (CN.out).mono ?_); rintro e w1 ⟨A1, q1, rfl, _, hr1, hb1⟩
    have hbX := hb1
    go_wp2_with fail
    go_ret2
    exact ⟨rfl, hbX⟩
  | [v], hv, _ =>
    have hvs := hv v (by simp)
    have cS := fun w => rSame (bs v) ⟨#[99, 104, 117, 110, 107, 101, 100]⟩ w (by rw [bs_size]; omega) (by decide)
    rw [bs_list, show lowL (⟨#[99, 104, 117, 110, 107, 101, 100]⟩ : ByteArray).data.toList = ckN from by decide] at cS
    have hc : chunkT [v] = if lowL v == ckN then (true, 0) else (false, 3) := rfl
    rw [hc]
    cases hx : (lowL v == ckN) with
    | true =>
      rw [hx] at cS
      have CS := Lib.hid cS
      clear cS hx hc
      go_enter Tryd.func44, Tryd.ntmps44
      go_wp2_with fail
      (with_reducible refine (CN.out).mono ?_); rintro e w1 ⟨A1, q1, rfl, _, hr1, hb1⟩
      have hbX := hb1
      obtain ⟨b, o, rfl, _, c0⟩ := hr1.text 0 (by simp)
      have c0' : w1.cell? ⟨b, o, none⟩ = some (.string (bs v)) := c0
      clear hr1 hb1 c0
      go_wp2_with fail
      (with_reducible refine (CS.out _).mono ?_); rintro e w2 ⟨rfl, hb2⟩
      have hbY := hbX.trans (hb2.mono hbX.size)
      go_wp2_with fail
      go_ret2
      exact ⟨rfl, hbY⟩
    | false =>
      rw [hx] at cS
      have CS := Lib.hid cS
      clear cS hx hc
      go_enter Tryd.func44, Tryd.ntmps44
      go_wp2_with fail
      (with_reducible refine (CN.out).mono ?_); rintro e w1 ⟨A1, q1, rfl, _, hr1, hb1⟩
      have hbX := hb1
      obtain ⟨b, o, rfl, _, c0⟩ := hr1.text 0 (by simp)
      have c0' : w1.cell? ⟨b, o, none⟩ = some (.string (bs v)) := c0
      clear hr1 hb1 c0
      go_wp2_with fail
      (with_reducible refine (CS.out _).mono ?_); rintro e w2 ⟨rfl, hb2⟩
      have hbY := hbX.trans (hb2.mono hbX.size)
      go_wp2_with fail
      go_ret2
      exact ⟨rfl, hbY⟩
  | v1 :: v2 :: r, _, hvl =>
    have d1 : (((v1 :: v2 :: r).length : Int) == 0) = false := beq_eq_false_iff_ne.2 (by simp; omega)
    have d2 : decide ((1 : Int) < ((v1 :: v2 :: r).length : Int)) = true := by simp; omega
    have hc : chunkT (v1 :: v2 :: r) = (false, 3) := rfl
    rw [hc]
    generalize (v1 :: v2 :: r).length = N at *
    clear hc
    go_enter Tryd.func44, Tryd.ntmps44
    go_wp2_with fail
    (with_reducible refine (CN.out).mono ?_); rintro e w1 ⟨A1, q1, rfl, _, hr1, hb1⟩
    have hbX := hb1
    go_wp2_with fail
    go_ret2
    exact ⟨rfl, hbX⟩
end

section
open Go.RowKit

theorem CutInv.mem {c : UInt8} {s : ByteArray} {k fr : Nat} {D : List (List UInt8)} (h : CutInv c s k fr D) : ∀ x ∈ D, x ∈ splitC c s.data.toList := by
  intro x hx
  rcases h with ⟨_, _, h⟩ | ⟨_, h⟩
  · rw [h]; exact List.mem_append_left _ hx
  · rw [h]; exact hx
theorem pick_num (x : List UInt8) : numV (trimL x) = (pickL x).getD 0 ∧ numIs (trimL x) = !badL x := by
  unfold numV numIs pickL badL
  cases lenE (trimL x) <;> exact ⟨rfl, rfl⟩
theorem pick_snoc (P : List (List UInt8)) (x : List UInt8) (h : badL x = false) : (P ++ [x]).filterMap pickL = P.filterMap pickL ++ [(pickL x).getD 0] := by
  rw [List.filterMap_append]
  congr 1
  unfold badL at h
  cases hx : pickL x with
  | none => unfold pickL at hx; rw [hx] at h; simp at h
  | some n => simp [hx]
theorem bad_snoc (P : List (List UInt8)) (x : List UInt8) (h1 : P.any badL = false) (h : badL x = false) : (P ++ [x]).any badL = false := by
  rw [List.any_append, h1]; simp [h]
theorem lens_bad {P : List (List UInt8)} {x : List UInt8} (hx : x ∈ P) (h : badL x = true) : lensP P = ([], 3) := by
  unfold lensP
  rw [if_pos (List.any_eq_true.2 ⟨x, hx, h⟩)]
theorem lens_good {P : List (List UInt8)} (h : P.any badL = false) : lensP P = (P.filterMap pickL, 0) := by
  unfold lensP
  rw [if_neg (by rw [h]; simp)]
theorem pieces_take (V : List (List UInt8)) (i : Nat) (h : i < V.length) : piecesL (V.take (i + 1)) = piecesL (V.take i) ++ splitC 44 V[i] := by
  rw [List.take_succ_eq_append_getElem h, pieces_app]
theorem pieces_mem_of {V : List (List UInt8)} {v x : List UInt8} (hv : v ∈ V) (hx : x ∈ splitC 44 v) : x ∈ piecesL V := by
  unfold piecesL
  exact List.mem_flatMap.2 ⟨v, hv, hx⟩
/-- lists of short fields -/
def fldsS (l : List Fld) : Prop := ∀ f ∈ l, f.1.length ≤ 500 ∧ f.2.length ≤ 500
theorem fldsS_ok {l : List Fld} (h : fldsS l) : fldsOk l := fun f hf => by have := h f hf; omega
theorem fldsS_values {l : List Fld} (h : fldsS l) (nm : List UInt8) : ∀ v ∈ valuesL nm l, v.length ≤ 500 := fun v hv => by
  unfold valuesL at hv
  obtain ⟨f, hf, rfl⟩ := List.mem_map.1 hv
  exact (h f (List.mem_filter.1 hf).1).2
theorem pieces_take_len (V : List (List UInt8)) (hV : V.length ≤ 1000) (hv : ∀ v ∈ V, v.length ≤ 500) (i : Nat) : (piecesL (V.take i)).length ≤ 501000 := by
  have h1 := (pieces_len (V.take i) 500 (fun v h => hv v (List.mem_of_mem_take h))).1
  have h2 : (V.take i).length * (500 + 1) ≤ 1000 * 501 := Nat.mul_le_mul (by rw [List.length_take]; omega) (by omega)
  omega
/-- lengths handed back, and an error -/
def LensPost (t : List Nat × Nat) (w : World) (e : Ending) (w' : World) : Prop :=
  ∃ A cap, e = .returned (.tuple #[.slice A t.1.length cap, .int .i64 t.2]) ∧ t.1.length ≤ cap ∧ Reads w' w'.heap.size 1 A t.1.length (ints t.1) ∧ Below w.heap.size w w'

set_option maxRecDepth 100000 in
set_option maxHeartbeats 8000000 in
theorem rLengths (A : Option Addr) (n c : Nat) (l : List Fld) (w : World) (hr : Reads w w.heap.size 2 A n (fldsC l)) (hn : n ≤ 1000) (hl : fldsS l) :
    Calls Tryd.prog 43 #[.slice A n c] w (LensPost (lensT (valuesL clN l)) w) := by
  obtain rfl := hr.flen
  have cN := rValues A l.length c l ⟨#[99, 111, 110, 116, 101, 110, 116, 45, 108, 101, 110, 103, 116, 104]⟩ w hr (by omega) (fldsS_ok hl) (by decide)
  unfold TextsPost at cN
  rw [values_low (show lowL (⟨#[99, 111, 110, 116, 101, 110, 116, 45, 108, 101, 110, 103, 116, 104]⟩ : ByteArray).data.toList = lowL clN by decide)] at cN
  have hv := fldsS_values hl clN
  have hvl := valuesL_len clN l
  obtain ⟨V, hV⟩ : ∃ V, valuesL clN l = V := ⟨_, rfl⟩
  rw [hV] at cN hv hvl ⊢
  have hV1 : V.length ≤ 1000 := by omega
  obtain ⟨R, hR⟩ : ∃ R, lensT V = R := ⟨_, rfl⟩
  rw [hR]
  have CN := Lib.hid cN
  have HV := Lib.hid (And.intro hv hR)
  have PL := Lib.hid (pieces_take_len V hV1 hv)
  clear cN hr hl hV hv hvl hR hn
  go_enter Tryd.func43, Tryd.ntmps43
  go_wp2_with fail
  (with_reducible refine (CN.out).mono ?_); rintro e w1 ⟨A1, q1, rfl, _, hr1, hb1⟩
  have HT := Lib.hid (And.intro hr1 hb1)
  clear hr1 hb1 CN
  go_wp2_with fail
  go_loopw [4, 6] (fun o i wr => ∃ k : Nat, i = .int .i64 k ∧ k ≤ V.length ∧ Hid ((piecesL (V.take k)).any badL = false) ∧ Hid (wr.ownsRow w1.heap.size 3 1 o ((piecesL (V.take k)).filterMap pickL).length (ints ((piecesL (V.take k)).filterMap pickL))) ∧ Hid (Below w1.heap.size w1 wr)) (fun _ i _ => V.length - (intOf i).toNat)
  case atStart => exact ⟨0, rfl, by omega, hide rfl, World.ownsRow_nil _ _ _ _, Below.refl _ _⟩
  case round =>
    obtain ⟨i, rfl, hi, HG, HO, HB⟩ := hrel
    rename World => W0
    by_cases hlt : i < V.length
    · obtain ⟨b, o, rfl, hbl, c0⟩ := HT.out.1.text i hlt
      obtain ⟨v, hv⟩ : ∃ v, V[i] = v := ⟨_, rfl⟩
      have hvs := HV.out.1 V[i] (List.getElem_mem hlt)
      have hvm : v ∈ V := by rw [← hv]; exact List.getElem_mem hlt
      have hpt := pieces_take V i hlt
      rw [hv] at c0 hvs hpt
      obtain ⟨s, hs⟩ : ∃ s, bs v = s := ⟨_, rfl⟩
      have hsl : s.data.toList = v := by rw [← hs]; rfl
      have hss : s.size ≤ 500 := by rw [← size_l, hsl]; exact hvs
      rw [hs] at c0
      rw [← hsl] at hpt hvm
      have HC0 := Lib.hid (And.intro hbl c0)
      have HP := Lib.hid (And.intro hpt hvm)
      have i0 : (0 : Int) ≤ (i : Int) := by omega
      have i1 : (i : Int) < (V.length : Int) := by omega
      obtain ⟨P, hP⟩ : ∃ P, piecesL (V.take i) = P := ⟨_, rfl⟩
      have hPl := PL.out i
      rw [hP] at HG HO HP hPl
      clear hbl c0 hpt hvm hvs hsl hs hv hP
      go_wp2_with fail
      go_loopw [4, 7, 8] (fun o2 f k wr => ∃ (j fr : Nat) (D : List (List UInt8)), k = .int .i64 j ∧ f = .int .i64 fr ∧ j ≤ s.size + 1 ∧ fr ≤ s.size + 1 ∧ D.length ≤ j ∧ Hid (CutInv 44 s j fr D) ∧ Hid ((P ++ D).any badL = false) ∧ Hid (wr.ownsRow w1.heap.size 3 1 o2 ((P ++ D).filterMap pickL).length (ints ((P ++ D).filterMap pickL))) ∧ Hid (Below w1.heap.size w1 wr)) (fun _ _ k _ => s.size + 1 - (intOf k).toNat)
      case atStart => exact ⟨0, 0, [], rfl, rfl, by omega, by omega, Nat.le_refl _, CutInv.start 44 s, (by rw [List.append_nil]; exact HG), (by rw [List.append_nil]; exact HO), HB⟩
      case round =>
        obtain ⟨j, fr, D, rfl, rfl, hj, hfr, hD, HC, HG2, HO2, HB2⟩ := hrel
        rename World => W1
        have c0 := (HB2.out.cell (p := ⟨b, o + i, none⟩) HC0.out.1).trans HC0.out.2
        by_cases hle : j ≤ s.size
        · have hfk := HC.out.le hle
          have hle1 : decide ((j : Int) ≤ (s.size : Int)) = true := by simp; omega
          obtain ⟨p, hp⟩ : ∃ p, s.extract fr j = p := ⟨_, rfl⟩
          have hps : p.size ≤ 500 := by rw [← hp, ByteArray.size_extract]; omega
          have TR := Lib.hid (fun w => rTrim p w (by omega))
          obtain ⟨q, hq⟩ : ∃ q, tr p = q := ⟨_, rfl⟩
          have hql : q.data.toList = trimL p.data.toList := by rw [← hq]; exact tr_list p
          have hqs : q.size ≤ 500 := by rw [← hq]; have := tr_size p; omega
          have cN := fun w => rNumber q w (by omega)
          obtain ⟨e1, e2⟩ := pick_num p.data.toList
          rw [hql, e1, e2] at cN
          rw [hq] at TR
          have hfl : (P ++ D).filterMap pickL = (P ++ D).filterMap pickL := rfl
          have hcnt : ((P ++ D).filterMap pickL).length ≤ 1000000 := by
            have := List.length_filterMap_le pickL (P ++ D)
            rw [List.length_append] at this
            omega
          obtain ⟨N, hN⟩ : ∃ N, (pickL p.data.toList).getD 0 = N := ⟨_, rfl⟩
          rw [hN] at cN
          obtain ⟨v', w5, hrun, hown, hb5, _⟩ := app_int HO2.out HB2.out.size hcnt N
          have HB5 : Hid (Below w1.heap.size w1 w5) := hide (HB2.out.trans hb5)
          have HRUN := Lib.hid hrun
          have HOW := Lib.hid hown
          clear hrun hown hb5 hfl e1 e2 hq hql
          by_cases hend : j = s.size
          · subst hend
            have HN : Hid (CutInv 44 s (s.size + 1) (s.size + 1) (D ++ [p.data.toList])) := by
              have := HC.out.last
              rw [hp] at this
              exact this
            have hlt2 : decide ((s.size : Int) < (s.size : Int)) = false := by simp
            cases hbad : badL p.data.toList with
            | true =>
              rw [hbad] at cN
              have CNq := Lib.hid cN
              have hres : R = ([], 3) := by
                rw [← HV.out.2]
                exact lens_bad (pieces_mem_of HP.out.2 (HN.out.mem _ (by simp))) hbad
              subst hres
              clear cN hbad hN
              go_wp2_with (first
                | (go_at_call 71; (with_reducible refine (TR.out _).mono ?_); rintro r w' ⟨rfl, rfl⟩)
                | (go_at_call 70; (with_reducible refine (CNq.out _).mono ?_); rintro r w' ⟨rfl, rfl⟩))
              go_ret2
              exact ⟨none, 0, rfl, Nat.le_refl _, Reads.none_, HT.out.2.trans (HB2.out.mono HT.out.2.size)⟩
            | false =>
              rw [hbad] at cN
              have CNq := Lib.hid cN
              have HG3 : Hid ((P ++ (D ++ [p.data.toList])).any badL = false) := by
                show _ = _
                rw [← List.append_assoc]; exact bad_snoc _ _ HG2.out hbad
              have HO3 : Hid (w5.ownsRow w1.heap.size 3 1 v' ((P ++ (D ++ [p.data.toList])).filterMap pickL).length (ints ((P ++ (D ++ [p.data.toList])).filterMap pickL))) := by
                show w5.ownsRow _ _ _ _ _ _
                rw [← List.append_assoc, pick_snoc _ _ hbad, hN]; exact HOW.out
              clear cN hbad hN
              go_wp2_with (first
                | (go_at_call 71; (with_reducible refine (TR.out _).mono ?_); rintro r w' ⟨rfl, rfl⟩)
                | (go_at_call 70; (with_reducible refine (CNq.out _).mono ?_); rintro r w' ⟨rfl, rfl⟩)
                | (at_builtin; refine wpList_append_run HRUN.out rfl _ _ rfl rfl rfl rfl ?_))
              go_roundw
              case rel => exact ⟨s.size + 1, s.size + 1, _, by go_num, by go_num, by omega, by omega, by simp; omega, HN, HG3, HO3, HB5⟩
              case measure => simp [intOf] <;> omega
          · have hjl : j < s.size := by omega
            have hlt2 : decide ((j : Int) < (s.size : Int)) = true := by simp; omega
            clear hend
            by_cases hc : s[j] = 44
            · have hcb := eqb_t (show (s[j].toNat : Int) = 44 by rw [hc]; rfl)
              have hcn : ((s[j].toNat : Int) != 44) = false := by simp [bne, hcb]
              have HN : Hid (CutInv 44 s (j + 1) (j + 1) (D ++ [p.data.toList])) := by
                have := HC.out.comma hjl hc
                rw [hp] at this
                exact this
              cases hbad : badL p.data.toList with
              | true =>
                rw [hbad] at cN
                have CNq := Lib.hid cN
                have hres : R = ([], 3) := by
                  rw [← HV.out.2]
                  exact lens_bad (pieces_mem_of HP.out.2 (HN.out.mem _ (by simp))) hbad
                subst hres
                clear cN hbad hN hc
                go_wp2_with (first
                  | (go_at_call 71; (with_reducible refine (TR.out _).mono ?_); rintro r w' ⟨rfl, rfl⟩)
                  | (go_at_call 70; (with_reducible refine (CNq.out _).mono ?_); rintro r w' ⟨rfl, rfl⟩))
                go_ret2
                exact ⟨none, 0, rfl, Nat.le_refl _, Reads.none_, HT.out.2.trans (HB2.out.mono HT.out.2.size)⟩
              | false =>
                rw [hbad] at cN
                have CNq := Lib.hid cN
                have HG3 : Hid ((P ++ (D ++ [p.data.toList])).any badL = false) := by
                  show _ = _
                  rw [← List.append_assoc]; exact bad_snoc _ _ HG2.out hbad
                have HO3 : Hid (w5.ownsRow w1.heap.size 3 1 v' ((P ++ (D ++ [p.data.toList])).filterMap pickL).length (ints ((P ++ (D ++ [p.data.toList])).filterMap pickL))) := by
                  show w5.ownsRow _ _ _ _ _ _
                  rw [← List.append_assoc, pick_snoc _ _ hbad, hN]; exact HOW.out
                clear cN hbad hN hc
                go_wp2_with (first
                  | (go_at_call 71; (with_reducible refine (TR.out _).mono ?_); rintro r w' ⟨rfl, rfl⟩)
                  | (go_at_call 70; (with_reducible refine (CNq.out _).mono ?_); rintro r w' ⟨rfl, rfl⟩)
                  | (at_builtin; refine wpList_append_run HRUN.out rfl _ _ rfl rfl rfl rfl ?_))
                go_roundw
                case rel => exact ⟨j + 1, j + 1, _, by go_num, by go_num, by omega, by omega, by simp; omega, HN, HG3, HO3, HB5⟩
                case measure => simp [intOf]; omega
            · have HN := Lib.hid (HC.out.other hjl hc)
              have hcb := eqb_f (a := s[j].toNat) (b := 44) (fun h => hc (UInt8.toNat_inj.1 (show s[j].toNat = 44 by omega)))
              have hcn : ((s[j].toNat : Int) != 44) = true := by simp [bne, hcb]
              clear hc cN hN HOW HRUN HB5
              go_wp2_with fail
              go_roundw
              case rel => exact ⟨j + 1, fr, D, by go_num, rfl, by omega, by omega, by omega, HN, HG2, HO2, HB2⟩
              case measure => simp [intOf]; omega
        · have HD := Lib.hid (HC.out.done (by omega))
          have hle1 : decide ((j : Int) ≤ (s.size : Int)) = false := by simp; omega
          have HE : Hid (piecesL (V.take (i + 1)) = P ++ D) := by show _ = _; rw [HP.out.1, HD.out]
          have HG4 : Hid ((piecesL (V.take (i + 1))).any badL = false) := by show _ = _; rw [HE.out]; exact HG2.out
          have HO4 : Hid (W1.ownsRow w1.heap.size 3 1 u4 ((piecesL (V.take (i + 1))).filterMap pickL).length (ints ((piecesL (V.take (i + 1))).filterMap pickL))) := by
            show W1.ownsRow _ _ _ _ _ _
            rw [HE.out]; exact HO2.out
          go_wp2_with fail
          go_roundw
          case rel => exact ⟨i + 1, by go_num, by omega, HG4, HO4, HB2⟩
          case measure => simp [intOf]; omega
    · obtain rfl : i = V.length := by omega
      have hd2 : decide ((V.length : Int) < (V.length : Int)) = false := by simp
      have hg := HG.out
      have ho := HO.out
      rw [List.take_length] at hg ho
      have hres : R = ((piecesL V).filterMap pickL, 0) := by rw [← HV.out.2]; exact lens_good hg
      subst hres
      obtain ⟨A', cap, rfl⟩ := own_slice ho
      have HO2 := Lib.hid ho
      clear ho hg
      go_wp2_with fail
      go_ret2
      exact ⟨A', cap, rfl, own_capA HO2.out, Reads.of_own HO2.out, HT.out.2.trans (HB.out.mono HT.out.2.size)⟩
end

section
open Go.RowKit Go.Shelf
attribute [local go_sem] Oper.semAt_some

/-- an append whose run is known, inside a fence -/
theorem wpListIn_append_run {F : Fence} {n : Nat} {P : Program} {w w' : World} {ops : Array Oper} {rest : List Oper} {o : Oper} {a : Act} {Q : Exit → Act → World → Prop} {t : TypeId} {v y v' : Value}
    (hrun : (Builtin.append_ #[t, t] t #[v, y]).run P w = .ok v' w') (hgd : o.guard = none) (s x : Operand)
    (ho : o.op = .call { callee := .builtin .append, args := #[s, x], argTypes := #[t, t] }) (hty : o.type = t) (hs : a.eval s = v) (hx : a.eval x = y)
    (h : wpListIn F n P ops Q rest (a.put o.dst v') w') : wpListIn F n P ops Q (o :: rest) a w := by
  refine wpListIn_plain hgd fun K hK' => ?_
  unfold Oper.wpIn
  refine ⟨?_, ?_⟩
  · simp [Oper.about, ho, resolve, Target.leads, Sem.run_pure]
  · rw [Oper.semAt_plain F _ _ (by rw [ho]; intro c hc'; cases hc')]
    simp only [execOp, ho, resolve, invoke, builtin, Sem.run_bind, Sem.run_pure, Result.andThen_ok, List.map_toArray, List.map_cons, List.map_nil, hs, hx, hty, hrun]
    exact hK' _ _ h
theorem infoInt : (Tryd.prog.info? 3).map (fun i => (i.zero, i.size, i.bytes)) = some (some (.int .i64 0), 1, 8) := by kernel_rfl

/-- the marks of loops that are over -/
def markD (D : Nat) : Deferred := { target := .collected D, args := #[] }
def KD (Ds : List Nat) (W : World) : Prop := ∀ D ∈ Ds, W.heap[D]? = some (.deferred (some []))
theorem KD_own {β : Type} (Ds : List Nat) (N : Nat) (h : ∀ D ∈ Ds, D < N) : OwnFrom N (fun (_ : β) W => KD Ds W) := by
  intro s W W' row hs hg hr D hD
  have h0 := hs D hD
  refine (hg.block D (Array.getElem?_eq_some_iff.1 h0).1 (fun e => ?_)).trans h0
  have := (hr D e.symm).1
  have := h D hD
  omega
theorem KD_below {Ds : List Nat} {A B : World} (h : KD Ds A) (hb : Below A.heap.size A B) : KD Ds B := fun D hD => (hb.block D (Array.getElem?_eq_some_iff.1 (h D hD)).1).trans (h D hD)
theorem KD_lt {Ds : List Nat} {A : World} (h : KD Ds A) : ∀ D ∈ Ds, D < A.heap.size := fun D hD => (Array.getElem?_eq_some_iff.1 (h D hD)).1
theorem KD_others {Ds : List Nat} {A B : World} (h : KD Ds A) (hk : KeepsOthers A B) : KD Ds B := fun D hD => hk.same _ _ (h D hD) rfl

def rawB (pre : List ByteArray) : List (List UInt8) := pre.map (·.data.toList)
theorem grown_then {a b c : World} {g : Nat} {row : Option Nat} (h : a.grownBy b (some g)) (k : b.grownBy c row) (hr : ∀ r, row = some r → r = g ∨ a.heap.size ≤ r) : a.grownBy c (some g) :=
  ⟨k.os.trans h.os, k.tape.trans h.tape, k.output.trans h.output, Nat.le_trans h.size k.size, fun i hi hne => (k.block i (Nat.lt_of_lt_of_le hi h.size) (fun e => by
    rcases hr i e.symm with h' | h'
    · exact hne (by rw [h'])
    · omega)).trans (h.block i hi hne)⟩
theorem grown_own {β : Type} (w5 : World) (O N : Nat) (h : w5.heap.size ≤ N) : OwnFrom N (fun (_ : β) W => w5.grownBy W (some O)) :=
  fun _ _ _ _ hs hg hr => grown_then hs hg (fun r e => .inr (Nat.le_trans h (hr r e).1))
/-- between two rounds of the loop over the pieces of one value -/
def FI (w w5 : World) (Bs : Nat) (Ds : List Nat) (P : List (List UInt8)) (pre : List ByteArray) (W : World) : Prop :=
  (((P ++ rawB pre).any badL = false) ∧ Boxed W (w.heap.size + 1) 22 (.slice none 0 0) ∧ Boxed W (w.heap.size + 2) 27 (.int .i64 0) ∧ Bs + 3 ≤ W.heap.size) ∧
  (∃ v, Boxed W (w.heap.size + 3) 22 v ∧ W.ownsRow w5.heap.size 3 1 v ((P ++ rawB pre).filterMap pickL).length (ints ((P ++ rawB pre).filterMap pickL)) ∧ (∀ g, v.ownBlock = some g → g < Bs ∨ Bs + 3 ≤ g)) ∧ ((Below w.heap.size w W ∧ KD Ds W) ∧ w5.grownBy W (some (w.heap.size + 3)))
/-- left by the return of the error -/
def FX (w : World) (Ds : List Nat) (c : Code) (pre : List ByteArray) (W : World) : Prop :=
  (c = .ret ∧ (rawB pre).any badL = true ∧ Boxed W (w.heap.size + 1) 22 (.slice none 0 0) ∧ Boxed W (w.heap.size + 2) 27 (.int .i64 3)) ∧ (Below w.heap.size w W ∧ KD Ds W)
theorem FI_own (w w5 : World) (Bs : Nat) (Ds : List Nat) (P : List (List UInt8)) (N : Nat) (hN : w.heap.size ≤ N) (hN5 : w5.heap.size ≤ N) (hD : ∀ D ∈ Ds, D < N) : OwnFrom N (FI w w5 Bs Ds P) := by
  refine OwnFrom.and (Own.from (fun s X Y row h hg hr => ⟨h.1, boxed_own' (β := Unit) _ _ (fun _ => .slice none 0 0) () X Y row h.2.1 hg hr, boxed_own' (β := Unit) _ _ (fun _ => .int .i64 0) () X Y row h.2.2.1 hg hr, Nat.le_trans h.2.2.2 hg.size⟩) _)
    (OwnFrom.and (Own.from (holdsRow_own w5.heap.size (w.heap.size + 3) 22 3 1 (fun pre => ((P ++ rawB pre).filterMap pickL).length) (fun pre => ints ((P ++ rawB pre).filterMap pickL)) (fun _ v => ∀ g, v.ownBlock = some g → g < Bs ∨ Bs + 3 ≤ g)) _) (OwnFrom.and (OwnFrom.and (ownFrom_below (Nat.le_refl _) hN) (KD_own Ds N hD)) (grown_own w5 _ N hN5)))
theorem FX_own (w : World) (Ds : List Nat) (c : Code) (N : Nat) (hN : w.heap.size ≤ N) (hD : ∀ D ∈ Ds, D < N) : OwnFrom N (FX w Ds c) := by
  refine OwnFrom.and (Own.from (fun s X Y row h hg hr => ⟨h.1, h.2.1, boxed_own' (β := Unit) _ _ (fun _ => .slice none 0 0) () X Y row h.2.2.1 hg hr, boxed_own' (β := Unit) _ _ (fun _ => .int .i64 3) () X Y row h.2.2.2 hg hr⟩) _)
    (OwnFrom.and (ownFrom_below (Nat.le_refl _) hN) (KD_own Ds N hD))
theorem FI_st (w w5 : World) (Bs : Nat) (Ds : List Nat) (P : List (List UInt8)) (hH : w.heap.size + 4 ≤ w5.heap.size) (hB5 : w5.heap.size ≤ Bs) (pre : List ByteArray) (A B : World) (h : FI w w5 Bs Ds P pre A) (hs : splitSt Bs A B) : FI w w5 Bs Ds P pre B := by
  obtain ⟨⟨h1, h2, h3, hz⟩, ⟨v, h4, h5, h6⟩, ⟨h7, h8⟩, h9⟩ := h
  have ne : ∀ {k : Nat}, k ≠ Bs → some k ≠ some Bs := fun hk e => hk (by injection e)
  refine ⟨⟨h1, h2.kept hs.1 (ne (by omega)), h3.kept hs.1 (ne (by omega)), Nat.le_trans hz hs.1.size⟩, ⟨v, h4.kept hs.1 (ne (by omega)), h5.kept hs.1 (.inr ?_), h6⟩, ⟨h7.grown hs.1 h7.size (fun k e => by injection e; omega), KD_others h8 hs.2⟩, grown_then h9 hs.1 (fun r e => by injection e; exact .inr (by omega))⟩
  intro e
  rcases h6 _ e with h | h <;> omega
theorem own_keep {W W' : World} {base e size n : Nat} {v : Value} {xs : List Value} (h : W.ownsRow base e size v n xs) (hb : Below W.heap.size W W') : W'.ownsRow base e size v n xs :=
  h.kept (only_of_below hb none) (by cases v.ownBlock <;> simp)
theorem FI_below {w w5 : World} {Bs : Nat} {Ds : List Nat} {P : List (List UInt8)} {pre : List ByteArray} {A B : World} (h : FI w w5 Bs Ds P pre A) (hb : Below A.heap.size A B) : FI w w5 Bs Ds P pre B := by
  obtain ⟨⟨h1, h2, h3, hz⟩, ⟨v, h4, h5, h6⟩, ⟨h7, h8⟩, h9⟩ := h
  have kb : ∀ {k : Nat} {t : TypeId} {u : Value}, Boxed A k t u → Boxed B k t u := fun hk => (hb.block _ hk.lt).trans hk
  exact ⟨⟨h1, kb h2, kb h3, Nat.le_trans hz hb.size⟩, ⟨v, kb h4, own_keep h5 hb, h6⟩, ⟨h7.trans (hb.mono h7.size), KD_below h8 hb⟩, grown_then h9 (only_of_below hb none) (fun r e => by cases e)⟩
theorem splitKp_grown' {Bs : Nat} {W W' : World} {row : Option Nat} (h : W.grownBy W' row) (hr : ∀ g, row = some g → g < Bs ∨ Bs + 3 ≤ g) : splitKp Bs W W' :=
  fun b h1 h2 _ ho => (h.block b (Array.getElem?_eq_some_iff.1 ho).1 (fun e => by rcases hr b e.symm with h | h <;> omega)).trans ho
theorem rawB_snoc (pre : List ByteArray) (x : ByteArray) : rawB (pre ++ [x]) = rawB pre ++ [x.data.toList] := by simp [rawB]
/-- one more length -/
theorem FI_add {w w5 : World} {Bs : Nat} {Ds : List Nat} {P : List (List UInt8)} {pre : List ByteArray} {x : ByteArray} {A W5 : World} {v v' : Value} {N : Nat} (hH : w.heap.size + 4 ≤ w5.heap.size) (hB5 : w5.heap.size ≤ Bs) (h : FI w w5 Bs Ds P pre A) (hv : Boxed A (w.heap.size + 3) 22 v) (ho : A.ownsRow w5.heap.size 3 1 v ((P ++ rawB pre).filterMap pickL).length (ints ((P ++ rawB pre).filterMap pickL))) (hg : ∀ g, v.ownBlock = some g → g < Bs ∨ Bs + 3 ≤ g)
    (hx : badL x.data.toList = false) (hN : (pickL x.data.toList).getD 0 = N)
    (hown : W5.ownsRow w5.heap.size 3 1 v' (((P ++ rawB pre).filterMap pickL).length + 1) (ints ((P ++ rawB pre).filterMap pickL) ++ [.int .i64 N])) (hgr : A.grownBy W5 v.ownBlock) (hor : v'.ownBlock = v.ownBlock ∨ v'.ownBlock = some (A.heap.size + 1)) (B0 : Nat) :
    Boxed W5 (w.heap.size + 3) 22 v ∧ KeepsFrom B0 A (W5.setCell ⟨w.heap.size + 3, 0, none⟩ v') ∧ splitKp Bs A (W5.setCell ⟨w.heap.size + 3, 0, none⟩ v') ∧ FI w w5 Bs Ds P (pre ++ [x]) (W5.setCell ⟨w.heap.size + 3, 0, none⟩ v') := by
  obtain ⟨⟨h1, h2, h3, hz⟩, _, ⟨h7, h8⟩, h9⟩ := h
  have n2 := h2.not_row (show (22 : TypeId) ≠ 3 by decide) ho
  have n3 := h3.not_row (show (27 : TypeId) ≠ 3 by decide) ho
  have n4 := hv.not_row (show (22 : TypeId) ≠ 3 by decide) ho
  have b4 : Boxed W5 (w.heap.size + 3) 22 v := hv.kept hgr n4
  have m4 := b4.not_row (show (22 : TypeId) ≠ 3 by decide) hown
  have ne : ∀ {k : Nat}, k ≠ w.heap.size + 3 → some k ≠ some (w.heap.size + 3) := fun hk e => hk (by injection e)
  have e : (P ++ rawB (pre ++ [x])).filterMap pickL = (P ++ rawB pre).filterMap pickL ++ [N] := by rw [rawB_snoc, ← List.append_assoc, pick_snoc _ _ hx, hN]
  have hge := own_ge ho
  have hkf : KeepsFrom 0 A (W5.setCell ⟨w.heap.size + 3, 0, none⟩ v') := (keepsFrom_grown ho hgr).trans (keepsFrom_set _ _ _ _)
  refine ⟨b4, (keepsFrom_grown ho hgr).trans (keepsFrom_set _ _ _ _), splitKp_trans (splitKp_grown' hgr hg) (splitKp_set _ _ _ (by omega)), ⟨?_, (h2.kept hgr n2).kept (grownBy_setCell' _ _ _) (ne (by omega)), (h3.kept hgr n3).kept (grownBy_setCell' _ _ _) (ne (by omega)), ?_⟩, ⟨v', b4.set v', ?_, ?_⟩, ⟨?_, ?_⟩, ?_⟩
  · rw [rawB_snoc, ← List.append_assoc]; exact bad_snoc _ _ h1 hx
  · exact Nat.le_trans hz (Nat.le_trans hgr.size (grownBy_setCell' W5 _ v').size)
  · rw [e, ints_app, List.length_append]
    exact hown.kept (grownBy_setCell' W5 _ v') (.inr m4.symm)
  · intro g eg
    rcases hor with h | h
    · exact hg g (h ▸ eg)
    · rw [h] at eg; injection eg with eg; omega
  · exact (h7.grown hgr h7.size fun k ek => by have := hge k ek; omega).setCell (p := ⟨w.heap.size + 3, 0, none⟩) (by simp only; omega) v'
  · exact fun D hD => hkf.same _ _ (Nat.zero_le _) (h8 D hD) rfl
  · exact only_setCell (grown_then h9 hgr fun r e => .inr (hge r e)) (.inl rfl) _

/-- the marks are taken in, one after the other -/
theorem leavesM_all {F : Fence} {n : Nat} {P : Program} {fn : Func} {tmps : Array Value} {R : Ending → World → Prop} (B : Nat) (Good : World → Prop) (hG : OwnFrom B (fun (_ : Unit) W => Good W)) :
    ∀ (Ds : List Nat) (W : World), Good W → (∀ D ∈ Ds, B ≤ D) → KD Ds W → Ds.Nodup → (∀ W', Good W' → LeavesIn F n P fn tmps R [] .returning W') → LeavesInM F n P fn tmps R (Ds.map markD) .returning W := by
  intro Ds
  induction Ds with
  | nil => intro W hg _ _ _ hend; exact hend W hg
  | cons D Ds ih =>
    intro W hg hB hK hnd hend
    have h0 := hK D List.mem_cons_self
    rw [List.nodup_cons] at hnd
    refine ⟨by simp, .inl ⟨D, _, rfl, run_takeDeferred h0, ih _ ?_ (fun D' h => hB D' (List.mem_cons_of_mem _ h)) ?_ hnd.2 hend⟩⟩
    · exact hG.putObj (s := ()) _ hg (hB D List.mem_cons_self) h0 rfl
    · intro D' hD'
      exact (World.putObj_heap_other (by rintro rfl; exact hnd.1 hD')).trans (hK D' (List.mem_cons_of_mem _ hD'))
end

section
open Go.RowKit Go.Shelf
attribute [local go_sem] Oper.semAt_some

set_option maxRecDepth 100000 in
set_option maxHeartbeats 16000000 in
theorem fLengths (A : Option Addr) (n c : Nat) (l : List Fld) (w : World) (hr : Reads w w.heap.size 2 A n (fldsC l)) (hn : n ≤ 1000) (hl : fldsS l) :
    Calls Tryd.prog 66 #[.agg #[.slice A n c]] w (LensPost (lensT (valuesL clN l)) w) := by
  obtain rfl := hr.flen
  have hb0 : Below w.heap.size w (w.alloc (.cells #[.slice A l.length c] 96)) := (Below.refl _ _).alloc (Nat.le_refl _) _
  have cN := fun w hr => fNamed A l.length c l ⟨#[67, 111, 110, 116, 101, 110, 116, 45, 76, 101, 110, 103, 116, 104]⟩ w hr (by omega) (fldsS_ok hl) (by decide)
  unfold TextsPost at cN
  rw [show (⟨#[67, 111, 110, 116, 101, 110, 116, 45, 76, 101, 110, 103, 116, 104]⟩ : ByteArray).data.toList = clN from rfl] at cN
  have hv := fldsS_values hl clN
  have hvl := valuesL_len clN l
  obtain ⟨V, hV⟩ : ∃ V, valuesL clN l = V := ⟨_, rfl⟩
  rw [hV] at cN hv hvl ⊢
  have hV1 : V.length ≤ 1000 := by omega
  obtain ⟨R, hR⟩ : ∃ R, lensT V = R := ⟨_, rfl⟩
  rw [hR]
  have CN := Lib.hid cN
  have HV := Lib.hid (And.intro hv (And.intro hR (pieces_take_len V hV1 hv)))
  have CS := Lib.hid (fun s w => SSeq_any s 44 w)
  -- the world in which the values are asked for
  obtain ⟨w4, hw4⟩ : ∃ w4, (((w.alloc (.cells #[.slice A l.length c] 96)).alloc (.cells #[.slice none 0 0] 22)).alloc (.cells #[.int .i64 0] 27)).alloc (.cells #[.slice none 0 0] 22) = w4 := ⟨_, rfl⟩
  have hs4 : w4.heap.size = w.heap.size + 4 := by rw [← hw4]; simp
  have hB4 : Below w.heap.size w w4 := by
    rw [← hw4]
    exact (((hb0.alloc hb0.size _).alloc (by simp; omega) _).alloc (by simp; omega) _)
  have m0 := Blk.new w 96 #[.slice A l.length c]
  have n1 := Boxed.new (w.alloc (.cells #[.slice A l.length c] 96)) 22 (.slice none 0 0)
  have n2 := Boxed.new ((w.alloc (.cells #[.slice A l.length c] 96)).alloc (.cells #[.slice none 0 0] 22)) 27 (.int .i64 0)
  have n3 := Boxed.new (((w.alloc (.cells #[.slice A l.length c] 96)).alloc (.cells #[.slice none 0 0] 22)).alloc (.cells #[.int .i64 0] 27)) 22 (.slice none 0 0)
  have m0 := ((m0.alloc (.cells #[.slice none 0 0] 22)).alloc (.cells #[.int .i64 0] 27)).alloc (.cells #[.slice none 0 0] 22)
  have n1 := (n1.alloc (.cells #[.int .i64 0] 27)).alloc (.cells #[.slice none 0 0] 22)
  have n2 := n2.alloc (.cells #[.slice none 0 0] 22)
  simp only [World.size_alloc] at m0 n1 n2 n3
  rw [hw4] at m0 n1 n2 n3
  have H4 := Lib.hid (And.intro hB4 (And.intro n1 (And.intro n2 n3)))
  have HR4 := Lib.hid ((hr.below hB4).more hB4.size)
  have q0 : w4.cell? ⟨w.heap.size, 0, none⟩ = some (.slice A l.length c) := m0.cell 0
  clear cN hr hl hb0 hV hR hv hvl hn hB4 m0 n1 n2 n3
  refine (callsIn_wide (n := 8)).1 ?_
  refine callsIn_of_wp_marks Tryd.func66 rfl trivial ?_ rfl
  simp only [Tryd.ntmps66, List.size_toArray, List.length_cons, List.length_nil, Nat.reduceAdd, Nat.reduceSub, Array.replicate_succ, Array.replicate_zero, List.push_toArray, List.append_toArray, List.nil_append, List.cons_append]
  gi_wp2_with (refine ⟨trivial, ?_⟩; gi_at_call 67; refine (callsIn_wide.2 (CN.out _ HR4.out)).mono ?_; rintro e w5 ⟨A1, q1, rfl, _, hr5, g5⟩)
  obtain ⟨hB4, n1, n2, n3⟩ := H4.out
  have h45 : w.heap.size + 4 ≤ w5.heap.size := by have := g5.size; omega
  have hB5 : Below w.heap.size w w5 := hB4.trans (g5.mono hB4.size)
  have k1 : Boxed w5 (w.heap.size + 1) 22 (.slice none 0 0) := (g5.block _ n1.lt).trans n1
  have k2 : Boxed w5 (w.heap.size + 2) 27 (.int .i64 0) := (g5.block _ n2.lt).trans n2
  have k3 : Boxed w5 (w.heap.size + 3) 22 (.slice none 0 0) := (g5.block _ n3.lt).trans n3
  -- the values lie apart from the box of what is collected
  have hcell : ∀ k (hk : k < V.length), ∃ b o, A1 = some ⟨b, o, none⟩ ∧ ∀ W, w5.grownBy W (some (w.heap.size + 3)) → W.cell? ⟨b, o + k, none⟩ = some (.string (bs V[k])) := by
    intro k hk
    obtain ⟨b, o, e, hb, h0⟩ := hr5.text k hk
    have hne : b ≠ w.heap.size + 3 := by
      intro eb
      rw [eb] at h0
      have : w5.cell? ⟨w.heap.size + 3, o + k, none⟩ = (#[Value.slice none 0 0] : Array Value)[o + k]? := cell_of_row w5 _ _ _ _ (0, 0) k3
      rw [this] at h0
      cases hz : o + k with
      | zero => rw [hz] at h0; simp at h0
      | succ m => rw [hz] at h0; simp at h0
    refine ⟨b, o, e, fun W hg => ?_⟩
    have hbk := hg.block b hb (fun e => hne (by injection e))
    exact (World.cell?_of_block hbk).trans h0
  have HC := Lib.hid (And.intro hcell (And.intro h45 (And.intro hB5 (And.intro k1 k2))))
  have hI0 : Hid (((piecesL (V.take 0)).any badL = false) ∧ (∃ v, Boxed w5 (w.heap.size + 3) 22 v ∧ w5.ownsRow w5.heap.size 3 1 v ((piecesL (V.take 0)).filterMap pickL).length (ints ((piecesL (V.take 0)).filterMap pickL))) ∧ KD [] w5 ∧ ([] : List Nat).Nodup ∧ (∀ D ∈ ([] : List Nat), w.heap.size ≤ D) ∧ w5.grownBy w5 (some (w.heap.size + 3))) :=
    ⟨rfl, ⟨_, k3, World.ownsRow_nil _ _ _ _⟩, (fun D hD => by simp at hD), List.nodup_nil, (fun D hD => by simp at hD), only_of_below (Below.refl _ _) _⟩
  clear hcell h45 hB5 k1 k2 k3 n1 n2 n3 hB4 hr5 g5 H4 CN HR4 hs4 q0
  refine wpIn_loop (fun a' W' => ∃ (i : Nat) (Ds : List Nat) (u6 u15 u16 u17 u18 u19 u33 : Value), a' = ({ tmps := #[.agg #[.slice A l.length c], .pointer (some ⟨w.heap.size, 0, none⟩), .pointer (some ⟨w.heap.size + 1, 0, none⟩), .pointer (some ⟨w.heap.size + 1 + 1, 0, none⟩), .pointer (some ⟨w.heap.size + 1 + 1 + 1, 0, none⟩), undef, u6, undef, undef, undef, .pointer (some ⟨w.heap.size, 0, none⟩), .agg #[.slice A l.length c], .slice A1 V.length q1, .int .i64 V.length, .int .i64 i, u15, u16, u17, u18, u19, undef, undef, undef, undef, undef, undef, undef, undef, undef, undef, undef, undef, undef, u33, undef], defers := Ds.map markD } : Act) ∧ i ≤ V.length ∧ Hid (((piecesL (V.take i)).any badL = false) ∧ (∃ v, Boxed W' (w.heap.size + 3) 22 v ∧ W'.ownsRow w5.heap.size 3 1 v ((piecesL (V.take i)).filterMap pickL).length (ints ((piecesL (V.take i)).filterMap pickL))) ∧ KD Ds W' ∧ Ds.Nodup ∧ (∀ D ∈ Ds, w.heap.size ≤ D) ∧ w5.grownBy W' (some (w.heap.size + 3)))) (fun a' _ => V.length - (intOf (a'.tmps.getD 14 undef)).toNat) ?start ?round
  case start => exact ⟨0, [], undef, undef, undef, undef, undef, undef, undef, rfl, Nat.zero_le _, hI0⟩
  case round =>
    rintro a' W0 ⟨i, Ds, u6, u15, u16, u17, u18, u19, u33, rfl, hi, HI⟩
    clear hI0
    by_cases hlt : i < V.length
    · obtain ⟨b, o, rfl, hcl⟩ := HC.out.1 i hlt
      have c0 := hcl W0 HI.out.2.2.2.2.2
      obtain ⟨v, hv⟩ : ∃ v, V[i] = v := ⟨_, rfl⟩
      have hvs := HV.out.1 V[i] (List.getElem_mem hlt)
      have hvm : v ∈ V := by rw [← hv]; exact List.getElem_mem hlt
      have hpt := pieces_take V i hlt
      rw [hv] at c0 hvs hpt
      obtain ⟨s, hs⟩ : ∃ s, bs v = s := ⟨_, rfl⟩
      have hsl : s.data.toList = v := by rw [← hs]; rfl
      have hss : s.size ≤ 500 := by rw [← size_l, hsl]; exact hvs
      rw [hs] at c0
      rw [← hsl] at hpt hvm
      have HP := Lib.hid (And.intro hpt hvm)
      have i0 : (0 : Int) ≤ (i : Int) := by omega
      have i1 : (i : Int) < (V.length : Int) := by omega
      clear hcl hpt hvm hvs hsl hs hv
      gi_wp2_with (refine ⟨trivial, ?_⟩; gi_at_call 87; refine (callsIn_wide.2 (CS.out s _)).mono ?_; rintro e w6 ⟨rfl, rfl⟩)
      obtain ⟨_, h45, hB5, k1, k2⟩ := HC.out
      obtain ⟨hg0, ⟨v0, b0, o0⟩, hK0, hnd, hDw, hgr⟩ := HI.out
      have h05 : w5.heap.size ≤ W0.heap.size := hgr.size
      obtain ⟨P, hP⟩ : ∃ P, piecesL (V.take i) = P := ⟨_, rfl⟩
      have hPl := HV.out.2.2 i
      rw [hP] at hg0 o0 HP hPl
      obtain ⟨w6, hw6⟩ : ∃ w6, ((W0.alloc (.cells #[.string s] 9)).alloc (.cells #[.string ⟨#[44]⟩] 9)).alloc (.cells #[.int .i64 0] 3) = w6 := ⟨_, rfl⟩
      have hs6 : w6.heap.size = W0.heap.size + 3 := by rw [← hw6]; simp
      have hb6 : Below W0.heap.size W0 w6 := by rw [← hw6]; exact (((Below.refl _ _).alloc (Nat.le_refl _) _).alloc (by simp) _).alloc (by simp; omega) _
      have hG : splitG W0.heap.size s 44 w6 := by
        have m0 := Boxed.new W0 9 (.string s)
        have m1 := Boxed.new (W0.alloc (.cells #[.string s] 9)) 9 (.string ⟨#[44]⟩)
        have m2 := Boxed.new ((W0.alloc (.cells #[.string s] 9)).alloc (.cells #[.string ⟨#[44]⟩] 9)) 3 (.int .i64 0)
        simp only [World.size_alloc] at m0 m1 m2
        rw [← hw6]
        exact ⟨(m0.alloc _).alloc _, m1.alloc _, m2⟩
      have hgr6 : w5.grownBy w6 (some (w.heap.size + 3)) := grown_then hgr (only_of_below hb6 none) (fun r e => by cases e)
      have neO : ∀ {k : Nat}, k ≠ w.heap.size + 3 → some k ≠ some (w.heap.size + 3) := fun hk e => hk (by injection e)
      have hI6 : FI w w5 W0.heap.size Ds P [] w6 := by
        refine ⟨⟨by rw [show rawB [] = [] from rfl, List.append_nil]; exact hg0, k1.kept hgr6 (neO (by omega)), k2.kept hgr6 (neO (by omega)), by omega⟩, ⟨v0, (hb6.block _ b0.lt).trans b0, by rw [show rawB [] = [] from rfl, List.append_nil]; exact own_keep o0 hb6, fun g eg => .inl (o0.lt _ eg).2⟩, ⟨hB5.grown hgr6 hB5.size (fun k e => by injection e; omega), KD_below hK0 hb6⟩, hgr6⟩
      have hDlt : ∀ D ∈ Ds, D < w6.heap.size := fun D hD => by have := KD_lt hK0 D hD; omega
      have H6 := Lib.hid (And.intro hnd (And.intro hDw (And.intro hDlt hB5)))
      rw [hw6]
      clear hw6 hb6 hgr hK0 o0 b0 hg0 hgr6 hP HI c0 k1 k2 hnd hDw
      refine wpIn_rangeFunc_st (F := Fence.wide) (n := 8) rfl (by omega) (gf := 115) (lb := #[.pointer (some ⟨W0.heap.size + 1, 0, none⟩), .pointer (some ⟨W0.heap.size, 0, none⟩), .pointer (some ⟨W0.heap.size + 2, 0, none⟩)]) rfl trivial (enters_of Tryd.func115 (by kernel_rfl) rfl)
        (split_st 7 (by omega) W0.heap.size s 44 (by omega)) hG (fun W o h => splitG_alloc W o h) (fun A B h => h.2) (fun h k => splitKp_trans h k) (fun W l o hl => splitKp_put W l o (by omega)) (fun _ => rfl)
        (FI w w5 W0.heap.size Ds P) (FX w Ds) (FI_own w w5 _ Ds P _ (by omega) (by omega) hDlt) (fun c => FX_own w Ds c _ (by omega) hDlt) (FI_st w w5 _ Ds P h45 h05) hI6
        (fun x => { tmps := #[.agg #[.slice A l.length c], .pointer (some ⟨w.heap.size, 0, none⟩), .pointer (some ⟨w.heap.size + 1, 0, none⟩), .pointer (some ⟨w.heap.size + 1 + 1, 0, none⟩), .pointer (some ⟨w.heap.size + 1 + 1 + 1, 0, none⟩), undef, .string s, .string x, undef, undef, .pointer (some ⟨w.heap.size, 0, none⟩), .agg #[.slice A l.length c], .slice (some ⟨b, o, none⟩) V.length q1, .int .i64 V.length, .int .i64 i, .bool true, .pointer (some ⟨b, o + i, none⟩), .string s, .string s, .func (.func 115) #[] #[.pointer (some ⟨W0.heap.size + 1, 0, none⟩), .pointer (some ⟨W0.heap.size, 0, none⟩), .pointer (some ⟨W0.heap.size + 2, 0, none⟩)], .string x, undef, undef, undef, undef, undef, undef, undef, undef, undef, undef, undef, undef, u33, undef], defers := [] }) ?assign ?body ?done ?stop
      case assign =>
        intro l x W K hK
        gi_wp2
        exact hK
      case body =>
        rintro ll pre x W hI hpre
        have hxs : x.size ≤ 500 ∧ pre.length ≤ 501 := by
          obtain ⟨h1, h2⟩ := splitC_len 44 s.data.toList
          rw [size_l] at h1 h2
          refine ⟨?_, ?_⟩
          · obtain ⟨y, hy, rfl⟩ := List.mem_map.1 (hpre.subset (List.mem_append.2 (.inr (List.mem_singleton.2 rfl))))
            have := h2 y hy
            rw [bs_size]; omega
          · have := hpre.length_le
            simp at this
            omega
        obtain ⟨hx1, hx2⟩ := hxs
        have htl := tr_size x
        have CT := Lib.hid (fun w => TTrim_any x w (by omega))
        have cL := fun w => pLength (tr x) w (by omega)
        obtain ⟨e1, e2⟩ := pick_num x.data.toList
        rw [tr_list, e1, e2] at cL
        obtain ⟨N, hN⟩ : ∃ N, (pickL x.data.toList).getD 0 = N := ⟨_, rfl⟩
        rw [hN] at cL
        have HIx := Lib.hid hI
        clear hI
        cases hbad : badL x.data.toList with
        | false =>
          rw [hbad] at cL
          have CL := Lib.hid cL
          have fin : ∀ W2, Below W.heap.size W W2 → ∃ v g cap m w7, W2.cell? ⟨w.heap.size + 1 + 1 + 1, 0, none⟩ = some v ∧ (Builtin.append_ #[22, 22] 22 #[v, .slice (some ⟨W2.heap.size, 0, none⟩) 1 1]).run Tryd.prog (W2.alloc (.cells #[.int .i64 N] 3)) = .ok (.slice (some ⟨g, 0, none⟩) m cap) w7 ∧
              w7.cell? ⟨w.heap.size + 1 + 1 + 1, 0, none⟩ = some v ∧ w7.frozen? ⟨w.heap.size + 1 + 1 + 1, 0, none⟩ = false ∧ Hid (KeepsFrom w6.heap.size W (w7.setCell ⟨w.heap.size + 3, 0, none⟩ (.slice (some ⟨g, 0, none⟩) m cap)) ∧ splitKp W0.heap.size W (w7.setCell ⟨w.heap.size + 3, 0, none⟩ (.slice (some ⟨g, 0, none⟩) m cap)) ∧ FI w w5 W0.heap.size Ds P (pre ++ [x]) (w7.setCell ⟨w.heap.size + 3, 0, none⟩ (.slice (some ⟨g, 0, none⟩) m cap))) := by
            intro W2 hb2
            have hI2 := FI_below HIx.out hb2
            obtain ⟨_, ⟨v, p4, p5, p6⟩, _⟩ := id hI2
            obtain ⟨i0, hi, hz0, hz1, hz2⟩ := info_parts infoInt
            have hlen : ((P ++ rawB pre).filterMap pickL).length ≤ 600000 := by
              have := List.length_filterMap_le pickL (P ++ rawB pre)
              have : (rawB pre).length = pre.length := by unfold rawB; rw [List.length_map]
              rw [List.length_append] at *
              omega
            have hz : w5.heap.size ≤ W2.heap.size := hI2.2.2.2.size
            obtain ⟨v', w7, hrun, hown, hg, hlt, hor⟩ := app_one (P := Tryd.prog) 22 22 3 i0 (.int .i64 0) 1 8 Tryd.underlying22 hi hz0 hz1 hz2 rfl (by decide) w5.heap.size W2 v _ _ p5 #[.int .i64 N] rfl (by intro u hu; simp at hu; subst hu; rfl) 3 (by unfold maxLen; omega) (by omega) hz
            obtain ⟨g, cap, rfl⟩ := ownsRow_succ hown
            obtain ⟨r1, r2, r3, r4⟩ := FI_add h45 h05 hI2 p4 p5 p6 hbad hN hown hg hor w6.heap.size
            exact ⟨v, g, cap, _, w7, p4.cell, hrun, r1.cell, r1.frozen, hide ⟨(keepsFrom_below hb2).trans r2, splitKp_trans (splitKp_below hb2) r3, r4⟩⟩
          have FIN := Lib.hid fin
          clear fin cL hbad hN e1 e2
          gi_wp2_with (first
            | (refine ⟨trivial, ?_⟩; gi_at_call 89; refine (CallsIn.inRound ll (callsIn_wide.2 (CT.out _))).mono ?_; rintro e W1 ⟨rfl, hb1⟩)
            | (refine ⟨trivial, ?_⟩; gi_at_call 88; refine (CallsIn.inRound ll (callsIn_wide.2 (CL.out _))).mono ?_; rintro e W2 ⟨rfl, hb2⟩; obtain ⟨vv, g, cap, m, w7, c4, hrun, d4, f4, HQ⟩ := FIN.out W2 (hb1.trans (hb2.mono hb1.size)))
            | (gi_at_builtin; refine wpListIn_append_run hrun (by rfl) _ _ (by rfl) (by rfl) (by rfl) (by rfl) ?_))
          exact HQ.out
        | true =>
          rw [hbad] at cL
          have CL := Lib.hid cL
          have HBD := Lib.hid hbad
          clear cL hbad hN e1 e2
          gi_wp2_with (first
            | (refine ⟨trivial, ?_⟩; gi_at_call 89; refine (CallsIn.inRound ll (callsIn_wide.2 (CT.out _))).mono ?_; rintro e W1 ⟨rfl, hb1⟩)
            | (refine ⟨trivial, ?_⟩; gi_at_call 88; refine (CallsIn.inRound ll (callsIn_wide.2 (CL.out _))).mono ?_; rintro e W2 ⟨rfl, hb2⟩
               obtain ⟨⟨hok, p1, p2, _⟩, _, ⟨hB, hK⟩, _⟩ := FI_below HIx.out (hb1.trans (hb2.mono hb1.size))
               have c0 : W2.cell? ⟨w.heap.size + 1, 0, none⟩ = some (.slice none 0 0) := p1.cell
               have f0 : W2.frozen? ⟨w.heap.size + 1, 0, none⟩ = false := p1.frozen
               have c1 : W2.cell? ⟨w.heap.size + 1 + 1, 0, none⟩ = some (.int .i64 0) := p2.cell
               have f1 : W2.frozen? ⟨w.heap.size + 1 + 1, 0, none⟩ = false := p2.frozen))
          refine ⟨(((keepsFrom_below hb1).trans (keepsFrom_below hb2)).trans (keepsFrom_set _ _ _ _)).trans (keepsFrom_set _ _ _ _), ⟨rfl, ?_, (p1.set _).kept (grownBy_setCell' _ _ _) (by simp), (p2.kept (grownBy_setCell' _ _ _) (by simp)).set _⟩, ?_, ?_⟩
          · rw [rawB_snoc, List.any_append]; simp [HBD.out]
          · exact (hB.setCell (by simp only; omega) _).setCell (by simp only; omega) _
          · exact KD_others (KD_others hK (KeepsOthers.setCell _ _ _)) (KeepsOthers.setCell _ _ _)
      case done =>
        rintro D xs W hD rfl ⟨⟨hok, p1, p2, pz⟩, ⟨v, p4, p5, _⟩, ⟨hB, hK⟩, hgr⟩ hKD
        have hraw : rawB ((splitC 44 s.data.toList).map bs) = splitC 44 s.data.toList := by
          unfold rawB
          rw [List.map_map, show ((fun x : ByteArray => x.data.toList) ∘ bs) = id from rfl, List.map_id]
        rw [hraw, ← HP.out.1] at hok p5
        obtain ⟨hnd, hDw, hDlt, hB5⟩ := H6.out
        have hN : Hid (((piecesL (V.take (i + 1))).any badL = false) ∧ (∃ v, Boxed W (w.heap.size + 3) 22 v ∧ W.ownsRow w5.heap.size 3 1 v ((piecesL (V.take (i + 1))).filterMap pickL).length (ints ((piecesL (V.take (i + 1))).filterMap pickL))) ∧ KD (D :: Ds) W ∧ (D :: Ds).Nodup ∧ (∀ D' ∈ D :: Ds, w.heap.size ≤ D') ∧ w5.grownBy W (some (w.heap.size + 3))) := by
          refine ⟨hok, ⟨v, p4, p5⟩, ?_, ?_, ?_, hgr⟩
          · intro D' hD'
            rcases List.mem_cons.1 hD' with rfl | h
            · exact hKD
            · exact hK D' h
          · rw [List.nodup_cons]
            exact ⟨fun h => by have := hDlt D h; omega, hnd⟩
          · intro D' hD'
            rcases List.mem_cons.1 hD' with rfl | h
            · have := hB5.size; omega
            · exact hDw D' h
        clear p1 p2 p4 p5 hok hB hK hgr hKD hraw hnd hDw hDlt
        gi_wp2
        exact ⟨⟨i + 1, D :: Ds, _, _, _, _, _, _, _, rfl, by omega, hN⟩, by simp [intOf]; omega⟩
      case stop =>
        rintro D cc pre W hD hpre ⟨⟨rfl, hbad, p1, p2⟩, hB, hK⟩ hKD
        obtain ⟨hnd, hDw, hDlt, hB5⟩ := H6.out
        have hres : R = ([], 3) := by
          rw [← HV.out.2.1]
          obtain ⟨y, hy, hyb⟩ := List.any_eq_true.1 hbad
          unfold rawB at hy
          obtain ⟨z, hz, rfl⟩ := List.mem_map.1 hy
          obtain ⟨z', hz', rfl⟩ := List.mem_map.1 (hpre.subset hz)
          exact lens_bad (pieces_mem_of HP.out.2 hz') hyb
        subst hres
        gi_wp2
        refine leavesM_all w.heap.size (fun W => (Boxed W (w.heap.size + 1) 22 (.slice none 0 0) ∧ Boxed W (w.heap.size + 2) 27 (.int .i64 3)) ∧ Below w.heap.size w W)
          (OwnFrom.and (Own.from (fun s X Y row h hg hr => ⟨boxed_own' (β := Unit) _ _ (fun _ => .slice none 0 0) () X Y row h.1 hg hr, boxed_own' (β := Unit) _ _ (fun _ => .int .i64 3) () X Y row h.2 hg hr⟩) _) (ownFrom_below (Nat.le_refl _) (Nat.le_refl _)))
          (D :: Ds) W ⟨⟨p1, p2⟩, hB⟩ ?_ ?_ ?_ ?_
        · intro D' hD'
          rcases List.mem_cons.1 hD' with rfl | h
          · have := hB5.size; omega
          · exact hDw D' h
        · intro D' hD'
          rcases List.mem_cons.1 hD' with rfl | h
          · exact hKD
          · exact hK D' h
        · rw [List.nodup_cons]
          exact ⟨fun h => by have := hDlt D h; omega, hnd⟩
        · rintro W' ⟨⟨r1, r2⟩, hBW⟩
          have q1 : W'.cell? ⟨w.heap.size + 1, 0, none⟩ = some (.slice none 0 0) := r1.cell
          have q2 : W'.cell? ⟨w.heap.size + 1 + 1, 0, none⟩ = some (.int .i64 3) := r2.cell
          refine ⟨.tuple #[.slice none 0 0, .int .i64 3], by simp [results, Tryd.f66, go_sem, q1, q2], ?_⟩
          exact ⟨none, 0, rfl, Nat.le_refl _, Reads.none_, hBW⟩
    · obtain rfl : i = V.length := by omega
      have hd2 : decide ((V.length : Int) < (V.length : Int)) = false := by simp
      obtain ⟨_, h45, hB5, k1, k2⟩ := HC.out
      obtain ⟨hg0, ⟨v0, b0, o0⟩, hK0, hnd, hDw, hgr⟩ := HI.out
      have neO : ∀ {k : Nat}, k ≠ w.heap.size + 3 → some k ≠ some (w.heap.size + 3) := fun hk e => hk (by injection e)
      have j1 := k1.kept hgr (neO (by omega))
      have j2 := k2.kept hgr (neO (by omega))
      rw [List.take_length] at hg0 o0
      have hres : R = ((piecesL V).filterMap pickL, 0) := by rw [← HV.out.2.1]; exact lens_good hg0
      subst hres
      obtain ⟨A', cap, rfl⟩ := own_slice o0
      have c4 : W0.cell? ⟨w.heap.size + 1 + 1 + 1, 0, none⟩ = some _ := b0.cell
      have c0 : W0.cell? ⟨w.heap.size + 1, 0, none⟩ = some (.slice none 0 0) := j1.cell
      have f0 : W0.frozen? ⟨w.heap.size + 1, 0, none⟩ = false := j1.frozen
      have c1 : W0.cell? ⟨w.heap.size + 1 + 1, 0, none⟩ = some (.int .i64 0) := j2.cell
      have f1 : W0.frozen? ⟨w.heap.size + 1 + 1, 0, none⟩ = false := j2.frozen
      gi_wp2
      obtain ⟨VV, hVV⟩ : ∃ VV, Value.slice A' ((piecesL V).filterMap pickL).length cap = VV := ⟨_, rfl⟩
      rw [hVV] at b0 o0 ⊢
      have z1 := j1.not_row (show (22 : TypeId) ≠ 3 by decide) o0
      have z2 := j2.not_row (show (27 : TypeId) ≠ 3 by decide) o0
      have hBW : Below w.heap.size w W0 := hB5.grown hgr hB5.size (fun k e => by injection e; omega)
      refine leavesM_all w.heap.size (fun W => (∃ v', Boxed W (w.heap.size + 1) 22 v' ∧ W.ownsRow w5.heap.size 3 1 v' ((piecesL V).filterMap pickL).length (ints ((piecesL V).filterMap pickL)) ∧ v' = VV) ∧ (Boxed W (w.heap.size + 2) 27 (.int .i64 0) ∧ Below w.heap.size w W))
        (OwnFrom.and (Own.from (holdsRow_own (β := Unit) w5.heap.size (w.heap.size + 1) 22 3 1 (fun _ => ((piecesL V).filterMap pickL).length) (fun _ => ints ((piecesL V).filterMap pickL)) (fun _ v' => v' = VV)) _) (OwnFrom.and (Own.from (boxed_own' (β := Unit) _ _ (fun _ => .int .i64 0)) _) (ownFrom_below (Nat.le_refl _) (Nat.le_refl _))))
        Ds _ ?_ hDw ?_ hnd ?_
      · refine ⟨⟨VV, (j1.set VV).kept (grownBy_setCell' _ _ _) (by simp), (o0.kept (grownBy_setCell' W0 _ VV) (.inr z1.symm)).kept (grownBy_setCell' _ _ _) (.inr z2.symm), rfl⟩, (j2.kept (grownBy_setCell' W0 _ VV) (by simp)).set _, (hBW.setCell (by simp only; omega) _).setCell (by simp only; omega) _⟩
      · exact KD_others (KD_others hK0 (KeepsOthers.setCell _ _ _)) (KeepsOthers.setCell _ _ _)
      · rintro W' ⟨⟨v', r1, r3, rfl⟩, r2, hBX⟩
        have q1 : W'.cell? ⟨w.heap.size + 1, 0, none⟩ = some v' := r1.cell
        have q2 : W'.cell? ⟨w.heap.size + 1 + 1, 0, none⟩ = some (.int .i64 0) := r2.cell
        refine ⟨.tuple #[v', .int .i64 0], by simp [results, Tryd.f66, go_sem, q1, q2], ?_⟩
        subst hVV
        exact ⟨A', cap, rfl, own_capA r3, Reads.of_own r3, hBX⟩
end

section
open Go.RowKit

theorem pLengths (A : Option Addr) (n c : Nat) (l : List Fld) (w : World) (hr : Reads w w.heap.size 2 A n (fldsC l)) (hn : n ≤ 1000) (hl : fldsS l) :
    Calls Tryd.prog 31 #[.slice A n c] w (LensPost (lensT (valuesL clN l)) w) := by
  have CF := Lib.hid (fLengths A n c l w hr hn hl)
  clear hr hl hn
  go_enter Tryd.func31, Tryd.ntmps31
  go_wp2_with fail
  (with_reducible refine (CF.out).mono ?_); rintro e w1 ⟨A1, q1, rfl, hc, hr1, hb1⟩
  go_wp2_with fail
  go_ret2
  exact ⟨A1, q1, rfl, hc, hr1, hb1⟩
theorem pChunkedW (A : Option Addr) (n c : Nat) (l : List Fld) (w : World) (hr : Reads w w.heap.size 2 A n (fldsC l)) (hn : n ≤ 100000) (hl : fldsOk l) :
    Calls Tryd.prog 33 #[.slice A n c] w fun e w' => e = .returned (.tuple #[.bool (chunkT (valuesL teN l)).1, .int .i64 ((chunkT (valuesL teN l)).2 : Nat)]) ∧ Below w.heap.size w w' := by
  have CF := Lib.hid (pChunked A n c l w hr hn hl)
  clear hr hl hn
  go_enter Tryd.func33, Tryd.ntmps33
  go_wp2_with fail
  (with_reducible refine (CF.out).mono ?_); rintro e w1 ⟨rfl, hb1⟩
  go_wp2_with fail
  go_ret2
  exact ⟨rfl, hb1⟩

/-- what Of hands back -/
def OfPost (t : Nat × Nat × Nat) (w : World) (e : Ending) (w' : World) : Prop :=
  e = .returned (.tuple #[.agg #[.int .i64 t.1, .int .i64 t.2.1], .int .i64 t.2.2]) ∧ Below w.heap.size w w'
theorem ofP_400 {L : List Nat} {e : Nat} {c : Bool} {f : Nat} (h : e ≠ 0 ∨ f ≠ 0 ∨ (c = true ∧ L ≠ [])) : ofP L e c f = (0, 0, 400) := if_pos h
theorem ofP_good (L : List Nat) (c : Bool) (h : ¬ (c = true ∧ L ≠ [])) : ofP L 0 c 0 = if L.any (fun n => n != L.headD 0) then (0, 0, 400) else if c then (3, 0, 0) else if L = [] then (1, 0, 0) else if 2048 < L.headD 0 then (0, 0, 413) else (2, L.headD 0, 0) := by
  unfold ofP
  rw [if_neg (by simp at h ⊢; exact h)]

set_option maxRecDepth 100000 in
set_option maxHeartbeats 8000000 in
theorem rOf (A : Option Addr) (n c : Nat) (l : List Fld) (w : World) (hr : Reads w w.heap.size 2 A n (fldsC l)) (hn : n ≤ 1000) (hl : fldsS l) :
    Calls Tryd.prog 42 #[.slice A n c] w (OfPost (ofT l) w) := by
  have hb0 : Below w.heap.size w (w.alloc (.cells #[.int .i64 0, .int .i64 0] 48)) := (Below.refl _ _).alloc (Nat.le_refl _) _
  have m0 := Blk.new w 48 #[.int .i64 0, .int .i64 0]
  have cL := fun w hr => rLengths A n c l w hr hn hl
  have cC := fun w hr => rChunked A n c l w hr (by omega) (fldsS_ok hl)
  unfold LensPost at cL
  have HR := Lib.hid hr
  have hlen := hr.flen
  have hLb : (lensT (valuesL clN l)).1.length ≤ 1000000 ∧ ∀ x ∈ (lensT (valuesL clN l)).1, x < 1000000000 := by
    obtain ⟨h1, h2⟩ := lensP_len (piecesL (valuesL clN l))
    refine ⟨?_, h2⟩
    have h3 := pieces_take_len (valuesL clN l) (by have := valuesL_len clN l; omega) (fldsS_values hl clN) (valuesL clN l).length
    rw [List.take_length] at h3
    have : (lensT (valuesL clN l)).1.length ≤ (piecesL (valuesL clN l)).length := h1
    omega
  unfold ofT
  obtain ⟨⟨L, E⟩, hLE⟩ : ∃ z, lensT (valuesL clN l) = z := ⟨_, rfl⟩
  obtain ⟨⟨C, F⟩, hCF⟩ : ∃ z, chunkT (valuesL teN l) = z := ⟨_, rfl⟩
  rw [hLE] at cL hLb ⊢
  rw [hCF] at cC ⊢
  simp only at cL cC hLb ⊢
  obtain ⟨R, hR⟩ : ∃ R, ofP L E C F = R := ⟨_, rfl⟩
  rw [hR]
  unfold OfPost
  have CL := Lib.hid cL
  have CC := Lib.hid cC
  have H0 := Lib.hid (And.intro hb0 m0)
  have HL := Lib.hid hLb
  clear cL cC hr hl hn hb0 m0 hLE hCF hLb hlen
  have tail : ∀ (a b : Int) (k : Nat × Nat × Nat) (W : World) (st : Int), Hid (Blk W w.heap.size 48 #[.int .i64 0, .int .i64 0] ∧ Below w.heap.size w W) → a = k.1 → b = k.2.1 → st = k.2.2 → True := fun _ _ _ _ _ _ _ _ _ => trivial
  clear tail
  go_enter Tryd.func42, Tryd.ntmps42
  go_wp2_with fail
  (with_reducible refine (CL.out _ ((HR.out.below H0.out.1).more H0.out.1.size)).mono ?_); rintro e w1 ⟨A1, q1, rfl, _, hr1, g1⟩
  have h1 := H0.out.1.trans (g1.mono H0.out.1.size)
  have k1 := H0.out.2.below g1 H0.out.2.lt
  have HR1 := Lib.hid (And.intro ((HR.out.below h1).more h1.size) (And.intro hr1 (And.intro h1 k1)))
  clear g1 h1 k1 hr1 H0 HR CL
  go_wp2_with fail
  (with_reducible refine (CC.out _ HR1.out.1).mono ?_); rintro e w2 ⟨rfl, g2⟩
  have h2 := HR1.out.2.2.1.trans (g2.mono HR1.out.2.2.1.size)
  have k2 := HR1.out.2.2.2.below g2 HR1.out.2.2.2.lt
  have r2 := (HR1.out.2.1.below g2).more g2.size
  have H2 := Lib.hid (And.intro h2 (And.intro k2 r2))
  have f0 : w2.frozen? ⟨w.heap.size, 0, none⟩ = false := k2.frozen 0
  have f1 : w2.frozen? ⟨w.heap.size, 1, none⟩ = false := k2.frozen 1
  have z0 : w2.cell? ⟨w.heap.size, 0, none⟩ = some (.int .i64 0) := k2.cell 0
  have z1 : w2.cell? ⟨w.heap.size, 1, none⟩ = some (.int .i64 0) := k2.cell 1
  clear g2 h2 k2 r2 HR1 CC
  by_cases hE : E = 0
  · subst hE
    have e1 : (((0 : Nat) : Int) != 0) = false := rfl
    by_cases hF : F = 0
    · subst hF
      by_cases hCL : C = true ∧ L ≠ []
      · rw [ofP_400 (.inr (.inr hCL))] at hR
        subst hR
        obtain ⟨rfl, hL⟩ := hCL
        have d1 : decide ((0 : Int) < (L.length : Int)) = true := by
          have := List.length_pos_iff.2 hL
          simp; omega
        have d2 : decide (0 < L.length) = true := by simp at d1 ⊢; omega
        have d3 : 0 < L.length := by simpa using d2
        clear hL
        go_wp2_with fail
        refine bodyPost_ret (results_cell_row_tmp (p := 2) (u := 3) (ty := 48) (by kernel_rfl) _ _ w.heap.size 48 #[.int .i64 0, .int .i64 0] (0, 0) _ rfl ((H2.out.2.1.set_ 0 _).set_ 1 _) Tryd.underlying48 rfl (by kernel_rfl)) rfl ?_
        exact ⟨rfl, (H2.out.1.setCell (by simp) _).setCell (by simp) _⟩
      · rw [ofP_good L C hCL] at hR
        have hdc : C = false ∨ L = [] := by
          cases C
          · exact .inl rfl
          · exact .inr (Classical.byContradiction fun h => hCL ⟨rfl, h⟩)
        have dC : (C && decide ((0 : Int) < (L.length : Int))) = false := by
          rcases hdc with rfl | rfl
          · rfl
          · simp
        have fin : ∀ (W : World) (j : Nat), Hid (W = w2.drewN j) → Hid (Below w.heap.size w W ∧ Blk W w.heap.size 48 #[.int .i64 0, .int .i64 0] ∧ Reads W W.heap.size 1 A1 L.length (ints L)) := by
          intro W j h
          rw [h.out]
          exact hide ⟨below_drewN H2.out.1 j, H2.out.2.1.drewN j, H2.out.2.2.drewN j⟩
        have HFI := Lib.hid fin
        have HDC := Lib.hid hdc
        have d4 : C = true → L.length = 0 := by
          intro h
          rcases hdc with rfl | rfl
          · cases h
          · rfl
        clear fin hdc hCL
        have HRs := Lib.hid hR
        clear hR
        rcases Bool.eq_false_or_eq_true C with hC | hC
        · subst hC
          have hL0 : L = [] := List.eq_nil_of_length_eq_zero (d4 rfl)
          subst hL0
          have hres : R = (3, 0, 0) := by rw [← HRs.out]; rfl
          subst hres
          clear dC d4
          go_wp2_with fail
          go_loopw [8] (fun i wr => i = .int .i64 1 ∧ wr = w2) (fun _ _ => 0)
          case atStart => exact ⟨rfl, rfl⟩
          case round =>
            obtain ⟨rfl, rfl⟩ := hrel
            go_wp2_with fail
            refine bodyPost_ret (results_cell_row_tmp (p := 2) (u := 3) (ty := 48) (by kernel_rfl) _ _ w.heap.size 48 #[.int .i64 3, .int .i64 0] (0, 0) _ rfl ((H2.out.2.1.set_ 0 _).set_ 1 _) Tryd.underlying48 rfl (by kernel_rfl)) rfl ?_
            exact ⟨rfl, (H2.out.1.setCell (by simp) _).setCell (by simp) _⟩
        · subst hC
          clear dC d4
          go_wp2_with fail
          go_loopw [8] (fun i wr => ∃ k j : Nat, i = .int .i64 k ∧ 1 ≤ k ∧ (k ≤ L.length ∨ k = 1) ∧ Hid (∀ x ∈ L.take k, x = L.headD 0) ∧ wr = w2.drewN j) (fun i _ => L.length - (intOf i).toNat)
          case atStart =>
            refine ⟨1, 0, rfl, Nat.le_refl _, .inr rfl, hide ?_, rfl⟩
            intro x hx
            cases L with
            | nil => simp at hx
            | cons y r => simpa using hx
          case round =>
            obtain ⟨k, j, rfl, hk1, hk, HT, rfl⟩ := hrel
            obtain ⟨hbF, hZ, hrF⟩ := HFI.out (w2.drewN j) j rfl
            have hLL := HL.out.1
            have f0 : (w2.drewN j).frozen? ⟨w.heap.size, 0, none⟩ = false := hZ.frozen 0
            have f1 : (w2.drewN j).frozen? ⟨w.heap.size, 1, none⟩ = false := hZ.frozen 1
            have z0 : (w2.drewN j).cell? ⟨w.heap.size, 0, none⟩ = some (.int .i64 0) := hZ.cell 0
            have z1 : (w2.drewN j).cell? ⟨w.heap.size, 1, none⟩ = some (.int .i64 0) := hZ.cell 1
            by_cases hlt : k < L.length
            · obtain ⟨b, o, rfl, _, c1⟩ := H2.out.2.2.num k hlt
              obtain ⟨b', o', e', _, c2⟩ := H2.out.2.2.num 0 (by omega)
              cases e'
              have hhd : L[0]'(by omega) = L.headD 0 := by cases L with
                | nil => simp at hlt
                | cons y r => rfl
              obtain ⟨x, hx⟩ : ∃ x, L[k] = x := ⟨_, rfl⟩
              obtain ⟨y, hy⟩ : ∃ y, L.headD 0 = y := ⟨_, rfl⟩
              rw [hx] at c1
              rw [hhd, hy] at c2
              have c3 : w2.cell? ⟨b, o, none⟩ = some (.int .i64 (y : Int)) := c2
              have i0 : (0 : Int) ≤ (k : Int) := by omega
              have i1 : (k : Int) < (L.length : Int) := by omega
              have i2 : (0 : Int) < (L.length : Int) := by omega
              have HF2 := Lib.hid (fun m => HFI.out (w2.drewN m) m rfl)
              by_cases he : x = y
              · have hq : ((x : Int) != (y : Int)) = false := by rw [he]; simp
                have HN : Hid (∀ z ∈ L.take (k + 1), z = L.headD 0) := by
                  intro z hz
                  rw [List.take_succ_eq_append_getElem hlt] at hz
                  rcases List.mem_append.1 hz with hz | hz
                  · exact HT.out z hz
                  · simp at hz; rw [hz, hx, hy, he]
                clear he hx hy hhd hbF hZ hrF
                go_wp2_with fail
                go_quiet (fail)
                go_wp2_with fail
                exact ⟨⟨k + 1, _, by go_num, by omega, .inl (by omega), HN, rfl⟩, by simp [intOf]; omega⟩
              · have hq : ((x : Int) != (y : Int)) = true := by rw [bne_iff_ne]; omega
                have hres : R = (0, 0, 400) := by
                  rw [← HRs.out, if_pos]
                  exact List.any_eq_true.2 ⟨x, by rw [← hx]; exact List.getElem_mem hlt, by rw [hy]; simpa using he⟩
                subst hres
                clear he hx hy hhd hbF hZ hrF f0 f1 z0 z1
                go_wp2_with fail
                go_quiet (fail)
                obtain ⟨hbG, hZG, _⟩ := HF2.out (j + nq)
                rw [World.drewN_drewN]
                generalize w2.drewN (j + nq) = W3 at hbG hZG ⊢
                have f0 : W3.frozen? ⟨w.heap.size, 0, none⟩ = false := hZG.frozen 0
                have f1 : W3.frozen? ⟨w.heap.size, 1, none⟩ = false := hZG.frozen 1
                have z0 : W3.cell? ⟨w.heap.size, 0, none⟩ = some (.int .i64 0) := hZG.cell 0
                have z1 : W3.cell? ⟨w.heap.size, 1, none⟩ = some (.int .i64 0) := hZG.cell 1
                go_wp2_with fail
                refine bodyPost_ret (results_cell_row_tmp (p := 2) (u := 3) (ty := 48) (by kernel_rfl) _ _ w.heap.size 48 #[.int .i64 0, .int .i64 0] (0, 0) _ rfl ((hZG.set_ 0 _).set_ 1 _) Tryd.underlying48 rfl (by kernel_rfl)) rfl ?_
                exact ⟨rfl, (hbG.setCell (by simp) _).setCell (by simp) _⟩
            · have hd : decide ((k : Int) < (L.length : Int)) = false := by simp; omega
              have hd' : decide (k < L.length) = false := by simp; omega
              have hany : L.any (fun n => n != L.headD 0) = false := by
                rw [List.any_eq_false]
                intro x hx
                have := HT.out
                rw [List.take_of_length_le (by omega)] at this
                simpa using this x hx
              have hRR := HRs.out
              rw [hany, if_neg (by simp), if_neg (by simp)] at hRR
              by_cases hL0 : L = []
              · subst hL0
                rw [if_pos rfl] at hRR
                subst hRR
                clear hany HT hrF
                go_wp2_with fail
                refine bodyPost_ret (results_cell_row_tmp (p := 2) (u := 3) (ty := 48) (by kernel_rfl) _ _ w.heap.size 48 #[.int .i64 1, .int .i64 0] (0, 0) _ rfl ((hZ.set_ 0 _).set_ 1 _) Tryd.underlying48 rfl (by kernel_rfl)) rfl ?_
                exact ⟨rfl, (hbF.setCell (by simp) _).setCell (by simp) _⟩
              · rw [if_neg hL0] at hRR
                have hLn : 0 < L.length := List.length_pos_iff.2 hL0
                obtain ⟨b, o, rfl, _, c2⟩ := H2.out.2.2.num 0 hLn
                have hhd : L[0] = L.headD 0 := by cases L with
                  | nil => simp at hLn
                  | cons y r => rfl
                obtain ⟨y, hy⟩ : ∃ y, L.headD 0 = y := ⟨_, rfl⟩
                rw [hhd, hy] at c2
                rw [hy] at hRR
                have c3 : (w2.drewN j).cell? ⟨b, o, none⟩ = some (.int .i64 (y : Int)) := c2
                have dz : ((L.length : Int) == 0) = false := beq_eq_false_iff_ne.2 (by omega)
                have i2 : (0 : Int) < (L.length : Int) := by omega
                by_cases hbig : 2048 < y
                · rw [if_pos hbig] at hRR
                  subst hRR
                  have db : decide ((2048 : Int) < (y : Int)) = true := by simp; omega
                  clear hany HT hrF hL0 hy hhd
                  go_wp2_with fail
                  refine bodyPost_ret (results_cell_row_tmp (p := 2) (u := 3) (ty := 48) (by kernel_rfl) _ _ w.heap.size 48 #[.int .i64 0, .int .i64 0] (0, 0) _ rfl ((hZ.set_ 0 _).set_ 1 _) Tryd.underlying48 rfl (by kernel_rfl)) rfl ?_
                  exact ⟨rfl, (hbF.setCell (by simp) _).setCell (by simp) _⟩
                · rw [if_neg hbig] at hRR
                  subst hRR
                  have db : decide ((2048 : Int) < (y : Int)) = false := by simp; omega
                  clear hany HT hrF hL0 hy hhd
                  go_wp2_with fail
                  refine bodyPost_ret (results_cell_row_tmp (p := 2) (u := 3) (ty := 48) (by kernel_rfl) _ _ w.heap.size 48 #[.int .i64 2, .int .i64 y] (0, 0) _ rfl ((hZ.set_ 0 _).set_ 1 _) Tryd.underlying48 rfl (by kernel_rfl)) rfl ?_
                  exact ⟨rfl, (hbF.setCell (by simp) _).setCell (by simp) _⟩
    · rw [ofP_400 (.inr (.inl hF))] at hR
      subst hR
      have e2 : ((F : Int) != 0) = true := by rw [bne_iff_ne]; omega
      go_wp2_with fail
      refine bodyPost_ret (results_cell_row_tmp (p := 2) (u := 3) (ty := 48) (by kernel_rfl) _ _ w.heap.size 48 #[.int .i64 0, .int .i64 0] (0, 0) _ rfl ((H2.out.2.1.set_ 0 _).set_ 1 _) Tryd.underlying48 rfl (by kernel_rfl)) rfl ?_
      exact ⟨rfl, (H2.out.1.setCell (by simp) _).setCell (by simp) _⟩
  · rw [ofP_400 (.inl hE)] at hR
    subst hR
    have e2 : ((E : Int) != 0) = true := by rw [bne_iff_ne]; omega
    go_wp2_with fail
    refine bodyPost_ret (results_cell_row_tmp (p := 2) (u := 3) (ty := 48) (by kernel_rfl) _ _ w.heap.size 48 #[.int .i64 0, .int .i64 0] (0, 0) _ rfl ((H2.out.2.1.set_ 0 _).set_ 1 _) Tryd.underlying48 rfl (by kernel_rfl)) rfl ?_
    exact ⟨rfl, (H2.out.1.setCell (by simp) _).setCell (by simp) _⟩
end

section
open Go.RowKit
open Go.Maps (Keyed IsMap Tidy setOf)

/-- what a piece of code leaves where it goes on -/
def onNormalF (R : Act → World → Prop) : Exit → Act → World → Prop
  | .normal, a, w => R a w
  | _, _, _ => False
theorem wp_normalF {P : Program} {c : Code} {Q : Exit → Act → World → Prop} {a : Act} {w : World} {R : Act → World → Prop} (h : c.wp P (onNormalF R) a w) (k : ∀ a' w', R a' w' → Q .normal a' w') : c.wp P Q a w :=
  Code.wp_mono (fun e a' w' h => by cases e <;> first | exact k _ _ h | exact h.elim) h
theorem two_of {l : List Nat} (hn : l.Nodup) (h : 1 < l.length) : ∃ a ∈ l, ∃ b ∈ l, a ≠ b :=
  ⟨l[0], List.getElem_mem _, l[1], List.getElem_mem _, List.pairwise_iff_getElem.1 (List.nodup_iff_pairwise_ne.1 hn) 0 1 (by omega) h (by omega)⟩
/-- more than one number: two that differ -/
theorem cnt_any (M : Nat) (L : List Nat) (h : ∀ x ∈ L, x < M) : decide (1 < (List.range M).countP (fun i => L.contains i)) = L.any (fun n => n != L.headD 0) := by
  rw [Bool.eq_iff_iff, decide_eq_true_iff, any_ne, List.countP_eq_length_filter]
  have hm : ∀ x, x ∈ (List.range M).filter (fun i => L.contains i) ↔ x ∈ L := fun x => by
    rw [List.mem_filter, List.mem_range, List.contains_iff_mem]
    exact ⟨fun h => h.2, fun hx => ⟨h x hx, hx⟩⟩
  constructor
  · intro h1
    obtain ⟨a, ha, b, hb, hab⟩ := two_of (List.nodup_range.filter _) h1
    exact ⟨a, (hm a).1 ha, b, (hm b).1 hb, hab⟩
  · rintro ⟨a, ha, b, hb, hab⟩
    have ha' := (hm a).2 ha
    have hb' := (hm b).2 hb
    generalize (List.range M).filter (fun i => L.contains i) = F at ha' hb'
    match F, ha', hb' with
    | [], ha', _ => simp at ha'
    | [x], ha', hb' => simp at ha' hb'; exact absurd (ha'.trans hb'.symm) hab
    | _ :: _ :: _, _, _ => simp
theorem keyNat9 (x : Nat) (h : x < 1000000000) : keyOf Tryd.prog 3 (.int .i64 (x : Int)) = some (.int .i64 (x : Int)) := Maps.keyOf_int_mk Tryd.underlying3 (WalkArith.wf_i64 (by omega))

set_option maxRecDepth 100000 in
set_option maxHeartbeats 16000000 in
theorem pOf (A : Option Addr) (n c : Nat) (l : List Fld) (w : World) (hr : Reads w w.heap.size 2 A n (fldsC l)) (hn : n ≤ 1000) (hl : fldsS l) :
    Calls Tryd.prog 27 #[.slice A n c] w (OfPost (ofT l) w) := by
  obtain rfl := hr.flen
  obtain ⟨W1, hW1⟩ : ∃ W1, (w.alloc (.cells #[.int .i64 0, .int .i64 0] 48)).alloc (.cells #[.slice A l.length c] 96) = W1 := ⟨_, rfl⟩
  have hb1 : Below w.heap.size w W1 := by rw [← hW1]; exact ((Below.refl _ _).alloc (Nat.le_refl _) _).alloc (by simp) _
  have mF : Blk W1 w.heap.size 48 #[.int .i64 0, .int .i64 0] := by rw [← hW1]; exact (Blk.new w _ _).alloc _
  have mR : Blk W1 (w.heap.size + 1) 96 #[.slice A l.length c] := by
    have := Blk.new (w.alloc (.cells #[.int .i64 0, .int .i64 0] 48)) 96 #[.slice A l.length c]
    rw [World.size_alloc] at this
    rw [← hW1]; exact this
  have cL := fun w hr => fLengths A l.length c l w hr hn hl
  have cC := fun w hr => pChunked A l.length c l w hr (by omega) (fldsS_ok hl)
  have cT := fun w hr => fNamed A l.length c l ⟨#[84, 114, 97, 110, 115, 102, 101, 114, 45, 69, 110, 99, 111, 100, 105, 110, 103]⟩ w hr (by omega) (fldsS_ok hl) (by decide)
  have cV := fun w hr => fNamed A l.length c l ⟨#[67, 111, 110, 116, 101, 110, 116, 45, 76, 101, 110, 103, 116, 104]⟩ w hr (by omega) (fldsS_ok hl) (by decide)
  unfold TextsPost at cT cV
  unfold LensPost at cL
  rw [show (⟨#[84, 114, 97, 110, 115, 102, 101, 114, 45, 69, 110, 99, 111, 100, 105, 110, 103]⟩ : ByteArray).data.toList = teN from rfl] at cT
  rw [show (⟨#[67, 111, 110, 116, 101, 110, 116, 45, 76, 101, 110, 103, 116, 104]⟩ : ByteArray).data.toList = clN from rfl] at cV
  have hLb : (lensT (valuesL clN l)).1.length ≤ 1000000 ∧ ∀ x ∈ (lensT (valuesL clN l)).1, x < 1000000000 := by
    obtain ⟨h1, h2⟩ := lensP_len (piecesL (valuesL clN l))
    refine ⟨?_, h2⟩
    have h3 := pieces_take_len (valuesL clN l) (by have := valuesL_len clN l; omega) (fldsS_values hl clN) (valuesL clN l).length
    rw [List.take_length] at h3
    have : (lensT (valuesL clN l)).1.length ≤ (piecesL (valuesL clN l)).length := h1
    omega
  have hbo := ofP_both l
  unfold ofT
  obtain ⟨⟨L, E⟩, hLE⟩ : ∃ z, lensT (valuesL clN l) = z := ⟨_, rfl⟩
  obtain ⟨⟨C, F⟩, hCF⟩ : ∃ z, chunkT (valuesL teN l) = z := ⟨_, rfl⟩
  rw [hLE] at cL hLb hbo ⊢
  rw [hCF] at cC hbo ⊢
  simp only at cL cC hLb hbo ⊢
  obtain ⟨T, hT⟩ : ∃ z, valuesL teN l = z := ⟨_, rfl⟩
  obtain ⟨V, hV⟩ : ∃ z, valuesL clN l = z := ⟨_, rfl⟩
  rw [hT] at cT hbo
  rw [hV] at cV hbo
  obtain ⟨R, hR⟩ : ∃ R, ofP L E C F = R := ⟨_, rfl⟩
  rw [hR]
  unfold OfPost
  have hHR := (hr.below hb1).more hb1.size
  have H1 := Lib.hid (And.intro hHR (And.intro hb1 (And.intro mF mR)))
  have CL := Lib.hid cL
  have CC := Lib.hid cC
  have CT := Lib.hid cT
  have CV := Lib.hid cV
  have HL := Lib.hid (And.intro hLb (And.intro hbo hR))
  have p0 : W1.cell? ⟨w.heap.size + 1, 0, none⟩ = some (.slice A l.length c) := mR.cell 0
  clear cL cC cT cV hr hl hb1 mF mR hLE hCF hT hV hLb hbo hR hn hHR
  have hmm := @run_makeMap Tryd.prog
  go_enter Tryd.func27, Tryd.ntmps27
  go_wp2_with fail
  (with_reducible refine (CC.out _ H1.out.1).mono ?_); rintro e w2 ⟨rfl, g2⟩
  have H2 := Lib.hid (And.intro ((H1.out.1.below g2).more g2.size) (And.intro (H1.out.2.1.trans (g2.mono H1.out.2.1.size)) (And.intro (H1.out.2.2.1.below g2 H1.out.2.2.1.lt) (H1.out.2.2.2.below g2 H1.out.2.2.2.lt))))
  clear p0 g2 H1 CC hW1
  have p0 : w2.cell? ⟨w.heap.size + 1, 0, none⟩ = some (.slice A l.length c) := H2.out.2.2.2.cell 0
  go_wp2_with fail
  (with_reducible refine (CL.out _ H2.out.1).mono ?_); rintro e w3 ⟨A3, q3, rfl, _, hr3, g3⟩
  have H3 := Lib.hid (And.intro ((H2.out.1.below g3).more g3.size) (And.intro (H2.out.2.1.trans (g3.mono H2.out.2.1.size)) (And.intro (H2.out.2.2.1.below g3 H2.out.2.2.1.lt) (H2.out.2.2.2.below g3 H2.out.2.2.2.lt))))
  have HR3 := Lib.hid hr3
  clear p0 g3 H2 CL hr3
  have p0 : w3.cell? ⟨w.heap.size + 1, 0, none⟩ = some (.slice A l.length c) := H3.out.2.2.2.cell 0
  obtain ⟨BO, hBO⟩ : ∃ BO, (decide (0 < T.length) && decide (0 < V.length)) = BO := ⟨_, rfl⟩
  have HBO := Lib.hid hBO
  clear hBO
  go_upto_region 4 with fail
  refine wp_normalF (R := fun a' w' => ∃ (v26 v27 v28 v29 v30 v31 v32 v33 v34 v35 v36 v37 : Value), a' = ({ tmps := #[.slice A l.length c, undef, .pointer (some ⟨w.heap.size, 0, none⟩), .int .i64 0, .pointer (some ⟨w.heap.size + 1, 0, none⟩), .bool C, .int .i64 F, .slice A3 L.length q3, .int .i64 E, .bool BO, undef, undef, undef, .slice A l.length c, .agg #[.slice A l.length c], .agg #[.slice A l.length c], .tuple #[.bool C, .int .i64 F], .agg #[.slice A l.length c], .tuple #[.bool C, .int .i64 F], .bool C, .int .i64 F, .tuple #[.slice A3 L.length q3, .int .i64 E], .agg #[.slice A l.length c], .tuple #[.slice A3 L.length q3, .int .i64 E], .slice A3 L.length q3, .int .i64 E, v26, v27, v28, v29, v30, v31, v32, v33, v34, v35, v36, v37, undef, undef, undef, undef, undef, undef, undef, undef, undef, undef, undef, undef, undef, undef, undef, undef, undef, undef, undef, undef, undef, undef, undef, undef, undef, undef, undef, undef, undef, undef, undef, undef, undef, undef, undef, undef, undef, undef, undef, undef, undef, undef, undef, undef], defers := [] } : Act) ∧ Hid (Below w3.heap.size w3 w')) ?region4 ?post4
  case region4 =>
    by_cases hT0 : 0 < T.length
    · have d1 : decide ((0 : Int) < (T.length : Int)) = true := by simp; omega
      go_wp2_with fail
      (with_reducible refine (CT.out _ H3.out.1).mono ?_); rintro e w4 ⟨A4, q4, rfl, _, _, g4⟩
      have p1 : w4.cell? ⟨w.heap.size + 1, 0, none⟩ = some (.slice A l.length c) := (H3.out.2.2.2.below g4 H3.out.2.2.2.lt).cell 0
      have hr4 := (H3.out.1.below g4).more g4.size
      go_wp2_with fail
      (with_reducible refine (CV.out _ hr4).mono ?_); rintro e w5 ⟨A5, q5, rfl, _, _, g5⟩
      have g35 := g4.trans (g5.mono g4.size)
      have hB : (decide (0 < V.length)) = BO := by
        rw [← HBO.out, decide_eq_true hT0]
        simp
      have hB' : (decide ((0 : Int) < (V.length : Int))) = BO := by
        rw [← hB, decide_eq_decide]
        omega
      clear p0 p1
      go_wp2_with fail
      exact ⟨⟨_, _, _, _, _, _, _, _, _, _, _, _, rfl⟩, g35⟩
    · have d1 : decide ((0 : Int) < (T.length : Int)) = false := by rw [decide_eq_false_iff_not]; omega
      have hB : BO = false := by
        rw [← HBO.out, decide_eq_false hT0]
        rfl
      subst hB
      go_wp2_with fail
      (with_reducible refine (CT.out _ H3.out.1).mono ?_); rintro e w4 ⟨A4, q4, rfl, _, _, g4⟩
      have p1 : w4.cell? ⟨w.heap.size + 1, 0, none⟩ = some (.slice A l.length c) := (H3.out.2.2.2.below g4 H3.out.2.2.2.lt).cell 0
      clear p0
      go_wp2_with fail
      exact ⟨⟨_, _, _, _, _, _, _, _, _, _, _, _, rfl⟩, g4⟩
  case post4 =>
  rintro a' w5 ⟨v26, v27, v28, v29, v30, v31, v32, v33, v34, v35, v36, v37, rfl, hg⟩
  have hb5 : Below w.heap.size w w5 := H3.out.2.1.trans (hg.out.mono H3.out.2.1.size)
  have k5 := H3.out.2.2.1.below hg.out H3.out.2.2.1.lt
  have rL := (HR3.out.below hg.out).more hg.out.size
  obtain ⟨w6, hw6⟩ : ∃ w6, w5.alloc (.map #[] 0) = w6 := ⟨_, rfl⟩
  have hM6 : w6.ownsMap Tryd.prog 3 (plainElem (H := Unit) Tryd.prog 4) w5.heap.size 0 (setOf (.lit (.bool true)) (natKeys (L.take 0))) := by
    have := World.ownsMap_made (H := Unit) w5 Tryd.prog 3 (plainElem (H := Unit) Tryd.prog 4)
    rw [hw6] at this
    exact this
  have hb6 : Below w5.heap.size w5 w6 := by rw [← hw6]; exact (Below.refl _ _).alloc (Nat.le_refl _) _
  have H6 := Lib.hid (And.intro hb5 (And.intro k5 (And.intro rL (And.intro hb6 hM6))))
  clear p0 hg hb5 k5 rL hb6 hM6 H3 HR3 CT CV
  go_wp2_with fail
  try rw [hw6]
  clear hw6
  go_loopw [41] (fun i wr => ∃ j : Nat, i = .int .i64 j ∧ j ≤ L.length ∧ Hid (wr.ownsMap Tryd.prog 3 (plainElem (H := Unit) Tryd.prog 4) w5.heap.size j (setOf (.lit (.bool true)) (natKeys (L.take j)))) ∧ Hid (w6.grownBy wr (some w5.heap.size))) (fun i _ => L.length - (intOf i).toNat)
  case atStart => exact ⟨0, rfl, by omega, H6.out.2.2.2.2, hide (World.grownBy.refl _ _)⟩
  case round =>
    obtain ⟨j, rfl, hj, HMj, hg⟩ := hrel
    rename World => X0
    have hLL := HL.out.1.1
    by_cases hjl : j < L.length
    · obtain ⟨b1, o1, rfl, hbl1, q1⟩ := H6.out.2.2.1.num j hjl
      have q6 := (H6.out.2.2.2.1.cell (p := ⟨b1, o1 + j, none⟩) hbl1).trans q1
      have d0 := hg.out.cell q6 (by simp; omega)
      have hxl := HL.out.1.2 L[j] (List.getElem_mem hjl)
      have htj : L.take (j + 1) = L.take j ++ [L[j]] := List.take_succ_eq_append_getElem hjl
      obtain ⟨x, hx⟩ : ∃ x, L[j] = x := ⟨_, rfl⟩
      rw [hx] at d0 hxl htj
      have hkey := keyNat9 x hxl
      have HMj := HMj.out
      have HT := Lib.hid htj
      have j0 : (0 : Int) ≤ (j : Int) := by omega
      have j1 : (j : Int) < (L.length : Int) := by omega
      clear q1 q6 hx htj
      go_wp2_with (at_mapUpdate; refine wpList_mapUpdate_own _ rfl _ _ _ 89 rfl 3 4 lawInt Tryd.underlying89 _ w5.heap.size j _ rfl HMj (by unfold maxLen; omega) _ _ _ rfl rfl hkey _ [] (plainElem_bool Tryd.underlying4 true) ?_; intro w7 hown7 hg7)
      go_roundw
      case rel => exact ⟨j + 1, by go_num, by omega, hide (by rw [HT.out, natKeys_app _ [x], show natKeys [x] = [Lit.int .i64 (x : Int)] from rfl, Maps.setOf_snoc]; exact hown7), hide (hg.out.trans hg7)⟩
      case measure => simp [intOf]; omega
    · obtain rfl : j = L.length := by omega
      have hd2 : decide ((L.length : Int) < (L.length : Int)) = false := by simp
      have hM8 := HMj.out
      rw [List.take_length] at hM8
      have hsz := size_nats 1000000000 (.lit (.bool true)) L HL.out.1.2
      have hcnt := cnt_any 1000000000 L HL.out.1.2
      rw [← hsz] at hcnt
      have hbX : Below w.heap.size w X0 := (H6.out.1.trans (H6.out.2.2.2.1.mono H6.out.1.size)).grown hg.out (by have := H6.out.1.size; have := H6.out.2.2.2.1.size; omega) (fun k e => by injection e with e; have := H6.out.1.size; omega)
      have kX : Blk X0 w.heap.size 48 #[.int .i64 0, .int .i64 0] := (H6.out.2.1.below H6.out.2.2.2.1 H6.out.2.1.lt).grown hg.out (fun e => by injection e with e; have := H6.out.2.1.lt; omega)
      have rX : ∀ k (hk : k < L.length), ∃ b o, A3 = some ⟨b, o, none⟩ ∧ X0.cell? ⟨b, o + k, none⟩ = some (.int .i64 (L[k] : Int)) := by
        intro k hk
        obtain ⟨b1, o1, e, hbl1, q1⟩ := H6.out.2.2.1.num k hk
        have q6 := (H6.out.2.2.2.1.cell (p := ⟨b1, o1 + k, none⟩) hbl1).trans q1
        exact ⟨b1, o1, e, hg.out.cell q6 (by simp; omega)⟩
      have f0 : X0.frozen? ⟨w.heap.size, 0, none⟩ = false := kX.frozen 0
      have f1 : X0.frozen? ⟨w.heap.size, 1, none⟩ = false := kX.frozen 1
      have z0 : X0.cell? ⟨w.heap.size, 0, none⟩ = some (.int .i64 0) := kX.cell 0
      have z1 : X0.cell? ⟨w.heap.size, 1, none⟩ = some (.int .i64 0) := kX.cell 1
      have hbo := HL.out.2.1
      have hRR := HL.out.2.2
      have hBo : BO = true ↔ (T ≠ [] ∧ V ≠ []) := by
        rw [← HBO.out, Bool.and_eq_true, decide_eq_true_iff, decide_eq_true_iff, List.length_pos_iff, List.length_pos_iff]
      rw [← hBo] at hbo
      have HX := Lib.hid (And.intro hbX kX)
      have HM8 := Lib.hid hM8
      have HCN := Lib.hid hcnt
      clear hM8 hsz hcnt hbX kX hBo HMj hg
      cases hBB : BO with
      | true =>
        subst hBB
        have hres : R = (0, 0, 400) := by rw [← hRR]; exact ofP_400 (hbo.1 (.inl rfl))
        subst hres
        clear hbo rX hRR
        go_wp2_with fail
        refine bodyPost_ret (results_cell_row_tmp (p := 2) (u := 3) (ty := 48) (by kernel_rfl) _ _ w.heap.size 48 #[.int .i64 0, .int .i64 0] (0, 0) _ rfl ((HX.out.2.set_ 0 _).set_ 1 _) Tryd.underlying48 rfl (by kernel_rfl)) rfl ?_
        exact ⟨rfl, (HX.out.1.setCell (by simp) _).setCell (by simp) _⟩
      | false =>
        subst hBB
        by_cases hF : F = 0
        · subst hF
          by_cases hE : E = 0
          · subst hE
            have hgood : ¬ (C = true ∧ L ≠ []) := fun h => by
              rcases hbo.2 (.inr (.inr h)) with h | h | h
              · cases h
              · exact h rfl
              · exact h rfl
            rw [ofP_good L C hgood] at hRR
            have hCL : C = true → L.length = 0 := fun h => by
              refine Classical.byContradiction fun hl => hgood ⟨h, fun e => hl (by rw [e]; rfl)⟩
            have e0 : (((0 : Nat) : Int) != 0) = false := rfl
            obtain ⟨SZ, hSZ⟩ : ∃ SZ, Maps.size (setOf (.lit (.bool true)) (natKeys L) : DataW Unit) = SZ := ⟨_, rfl⟩
            have hcn := HCN.out
            rw [hSZ] at hcn
            rw [← hcn] at hRR
            have hlen := HM8.out.len Tryd.underlying89 3
            rw [hSZ] at hlen
            clear hbo hgood
            by_cases hS : 1 < SZ
            · have ds : decide ((1 : Int) < (SZ : Int)) = true := by simp; omega
              have ds2 : decide (1 < SZ) = true := by simp; omega
              rw [ds2, if_pos rfl] at hRR
              subst hRR
              clear rX
              go_wp2_with fail
              refine bodyPost_ret (results_cell_row_tmp (p := 2) (u := 3) (ty := 48) (by kernel_rfl) _ _ w.heap.size 48 #[.int .i64 0, .int .i64 0] (0, 0) _ rfl ((HX.out.2.set_ 0 _).set_ 1 _) Tryd.underlying48 rfl (by kernel_rfl)) rfl ?_
              exact ⟨rfl, (HX.out.1.setCell (by simp) _).setCell (by simp) _⟩
            · have ds : decide ((1 : Int) < (SZ : Int)) = false := by simp; omega
              have ds2 : decide (1 < SZ) = false := by simp; omega
              rw [ds2, if_neg (by simp)] at hRR
              cases hCC : C with
              | true =>
                subst hCC
                rw [if_pos rfl] at hRR
                subst hRR
                clear rX
                go_wp2_with fail
                refine bodyPost_ret (results_cell_row_tmp (p := 2) (u := 3) (ty := 48) (by kernel_rfl) _ _ w.heap.size 48 #[.int .i64 3, .int .i64 0] (0, 0) _ rfl ((HX.out.2.set_ 0 _).set_ 1 _) Tryd.underlying48 rfl (by kernel_rfl)) rfl ?_
                exact ⟨rfl, (HX.out.1.setCell (by simp) _).setCell (by simp) _⟩
              | false =>
                subst hCC
                rw [if_neg (by simp)] at hRR
                by_cases hL0 : L = []
                · rw [if_pos hL0] at hRR
                  subst hRR
                  have dz : ((L.length : Int) == 0) = true := by rw [hL0]; rfl
                  clear rX hL0
                  go_wp2_with fail
                  refine bodyPost_ret (results_cell_row_tmp (p := 2) (u := 3) (ty := 48) (by kernel_rfl) _ _ w.heap.size 48 #[.int .i64 1, .int .i64 0] (0, 0) _ rfl ((HX.out.2.set_ 0 _).set_ 1 _) Tryd.underlying48 rfl (by kernel_rfl)) rfl ?_
                  exact ⟨rfl, (HX.out.1.setCell (by simp) _).setCell (by simp) _⟩
                · rw [if_neg hL0] at hRR
                  have hLn : 0 < L.length := List.length_pos_iff.2 hL0
                  obtain ⟨b, o, rfl, c2⟩ := rX 0 hLn
                  have hhd : L[0] = L.headD 0 := by cases L with
                    | nil => simp at hLn
                    | cons y r => rfl
                  obtain ⟨y, hy⟩ : ∃ y, L.headD 0 = y := ⟨_, rfl⟩
                  rw [hhd, hy] at c2
                  rw [hy] at hRR
                  have c3 : X0.cell? ⟨b, o, none⟩ = some (.int .i64 (y : Int)) := c2
                  have dz : ((L.length : Int) == 0) = false := beq_eq_false_iff_ne.2 (by omega)
                  have i2 : (0 : Int) < (L.length : Int) := by omega
                  clear rX hL0 hy hhd c2
                  by_cases hbig : 2048 < y
                  · rw [if_pos hbig] at hRR
                    subst hRR
                    have db : decide ((2048 : Int) < (y : Int)) = true := by simp; omega
                    go_wp2_with fail
                    refine bodyPost_ret (results_cell_row_tmp (p := 2) (u := 3) (ty := 48) (by kernel_rfl) _ _ w.heap.size 48 #[.int .i64 0, .int .i64 0] (0, 0) _ rfl ((HX.out.2.set_ 0 _).set_ 1 _) Tryd.underlying48 rfl (by kernel_rfl)) rfl ?_
                    exact ⟨rfl, (HX.out.1.setCell (by simp) _).setCell (by simp) _⟩
                  · rw [if_neg hbig] at hRR
                    subst hRR
                    have db : decide ((2048 : Int) < (y : Int)) = false := by simp; omega
                    go_wp2_with fail
                    refine bodyPost_ret (results_cell_row_tmp (p := 2) (u := 3) (ty := 48) (by kernel_rfl) _ _ w.heap.size 48 #[.int .i64 2, .int .i64 y] (0, 0) _ rfl ((HX.out.2.set_ 0 _).set_ 1 _) Tryd.underlying48 rfl (by kernel_rfl)) rfl ?_
                    exact ⟨rfl, (HX.out.1.setCell (by simp) _).setCell (by simp) _⟩
          · have e2 : ((E : Int) != 0) = true := by rw [bne_iff_ne]; omega
            have e0 : (((0 : Nat) : Int) != 0) = false := rfl
            have hres : R = (0, 0, 400) := by rw [← hRR]; exact ofP_400 (.inl hE)
            subst hres
            clear hbo rX hRR
            go_wp2_with fail
            refine bodyPost_ret (results_cell_row_tmp (p := 2) (u := 3) (ty := 48) (by kernel_rfl) _ _ w.heap.size 48 #[.int .i64 0, .int .i64 0] (0, 0) _ rfl ((HX.out.2.set_ 0 _).set_ 1 _) Tryd.underlying48 rfl (by kernel_rfl)) rfl ?_
            exact ⟨rfl, (HX.out.1.setCell (by simp) _).setCell (by simp) _⟩
        · have e2 : ((F : Int) != 0) = true := by rw [bne_iff_ne]; omega
          have hres : R = (0, 0, 400) := by rw [← hRR]; exact ofP_400 (.inr (.inl hF))
          subst hres
          clear hbo rX hRR
          go_wp2_with fail
          refine bodyPost_ret (results_cell_row_tmp (p := 2) (u := 3) (ty := 48) (by kernel_rfl) _ _ w.heap.size 48 #[.int .i64 0, .int .i64 0] (0, 0) _ rfl ((HX.out.2.set_ 0 _).set_ 1 _) Tryd.underlying48 rfl (by kernel_rfl)) rfl ?_
          exact ⟨rfl, (HX.out.1.setCell (by simp) _).setCell (by simp) _⟩
end

section
open Go.RowKit Go.Sort Go.Lib

/-- what the contracts ask of the listed tables, in a world and in all that follow it -/
structure Tabs (w : World) : Prop where
  pow : Lib.TabIs Tryd.prog w "internal/strconv.uint64pow10" .u64 Lib.pow10Tab
  tz : TabAt 7 Lib.deBruijn64tab w
theorem Tabs.below {w w' : World} (h : Tabs w) (hb : Below w.heap.size w w') : Tabs w' := by
  refine ⟨Lib.tabBelow_of_tabIs h.pow w' hb, fun j hj => ?_⟩
  have h0 := h.tz j hj
  have hlt : (7 : Nat) < w.heap.size := by
    rcases Nat.lt_or_ge 7 w.heap.size with h' | h'
    · exact h'
    · unfold World.cell? at h0; simp [Array.getElem?_eq_none h'] at h0
  exact (hb.cell (p := ⟨7, j, none⟩) hlt).trans h0
theorem Tabs.alloc {w : World} (h : Tabs w) (o : Obj) : Tabs (w.alloc o) := h.below ((Below.refl _ _).alloc (Nat.le_refl _) o)

/-- a hexadecimal digit, small letters -/
def hxd (d : Nat) : UInt8 := if d < 10 then UInt8.ofNat (48 + d) else UInt8.ofNat (87 + d)
/-- the hexadecimal numeral -/
def hexDigits (u : Nat) : List UInt8 := if _h : u < 16 then [hxd u] else hexDigits (u / 16) ++ [hxd (u % 16)]
termination_by u
decreasing_by omega
theorem hexDigits_small {u : Nat} (h : u < 16) : hexDigits u = [hxd u] := by rw [hexDigits, dif_pos h]
theorem hexDigits_big {u : Nat} (h : ¬ u < 16) : hexDigits u = hexDigits (u / 16) ++ [hxd (u % 16)] := by rw [hexDigits, dif_neg h]

theorem digits36_at : ∀ p : Fin 16, Lib.digits36.data.toList.getD p.val 0 = hxd p.val := by decide +kernel
theorem idx_digits {P : Program} (t : TypeId) (ht : P.underlying t = some .string) (k : IntKind) (z : Int) (i : Nat) (hz : z = (i : Int)) (hi : i < 16) (w : World) :
    (Instr.index t (.string Lib.digits36) (.int k z)).run P w = .ok (.int .u8 ((hxd i).toNat : Int)) w := by
  subst hz
  rw [run_index_string w t Lib.digits36 k _ ht, dif_pos ⟨by omega, by rw [Lib.digits36_size]; omega⟩]
  have e : ((i : Int)).toNat = i := by omega
  simp only [e]
  have h1 := digits36_at ⟨i, hi⟩
  rw [List.getD_eq_getElem?_getD, List.getElem?_eq_getElem (by show i < Lib.digits36.data.toList.length; rw [show Lib.digits36.data.toList.length = Lib.digits36.size from by simp, Lib.digits36_size]; omega)] at h1
  simp only [Option.getD_some] at h1
  rw [← h1]
  rfl

set_option maxHeartbeats 400000 in
theorem isPow16 (w : World) : Calls Tryd.prog 130 #[.int .i64 16] w fun e w' => e = .returned (.bool true) ∧ w = w' := by
  go_enter Tryd.func130, Tryd.ntmps130
  go_wp2
  go_ret
  exact ⟨rfl, rfl⟩
theorem tz16 (w : World) (h : Tabs w) : Calls Tryd.prog 131 #[.int .u64 16] w fun e w' => e = .returned (.int .i64 4) ∧ w = w' :=
  (Any7.bits_TrailingZeros Tryd.lays27 16 (by omega) w (fun _ => h.tz)).mono fun e w' ⟨he, hw⟩ => ⟨he.trans (ret_int (by decide +kernel)), hw.symm⟩

/-- what the stores of formatBits have laid so far: the array's cells from k on are the digits D -/
def Tail (cs : Array Value) (k : Nat) (D : List UInt8) : Prop := cs.size = 65 ∧ k + D.length = 65 ∧ ∀ j, (h : j < D.length) → cs[k + j]? = some (.int .u8 (D[j].toNat : Int))
theorem Tail.step {cs : Array Value} {k : Nat} {D : List UInt8} (h : Tail cs (k + 1) D) (b : UInt8) : Tail (cs.setIfInBounds k (.int .u8 (b.toNat : Int))) k (b :: D) := by
  refine ⟨by simp [h.1], by have := h.2.1; simp; omega, fun j hj => ?_⟩
  have h1 := h.1
  have h2 := h.2.1
  cases j with
  | zero => simp [Array.getElem?_setIfInBounds, h1]; omega
  | succ j =>
    have := h.2.2 j (by simpa using hj)
    rw [Array.getElem?_setIfInBounds, if_neg (by omega), show k + (j + 1) = k + 1 + j by omega, this]
    rfl
theorem and15 (x : Nat) (hx : x < 18446744073709551616) : bits BinOp.and IntKind.u64 (x : Int) 15 = (x : Int) % 16 := by
  have h := bits_and_u64_nat x 15 hx (by omega)
  have h2 : x &&& 15 = x % 16 := Nat.and_two_pow_sub_one_eq_mod x 4
  rw [h2] at h
  exact h.trans (by omega)
structure HexInv (u0 x k : Nat) (D : List UInt8) : Prop where
  text : hexDigits u0 = hexDigits x ++ D
  pow : x * 16 ^ D.length ≤ u0
  len : k + D.length = 65
  few : D.length ≤ 15
theorem HexInv.le {u0 x k : Nat} {D : List UInt8} (h : HexInv u0 x k D) : x ≤ u0 := by
  have h1 := h.pow
  have h2 : x * 1 ≤ x * 16 ^ D.length := Nat.mul_le_mul_left _ (Nat.pow_pos (by decide))
  omega
theorem HexInv.step {u0 x k : Nat} {D : List UInt8} (h : HexInv u0 x (k + 1) D) (hu : u0 < 18446744073709551616) (h16 : ¬ x < 16) : HexInv u0 (x / 16) k (hxd (x % 16) :: D) := by
  refine ⟨?_, ?_, by have := h.len; simp; omega, ?_⟩
  · rw [h.text, hexDigits_big h16]; simp
  · have h1 := h.pow
    simp only [List.length_cons, Nat.pow_succ]
    have h2 : x / 16 * (16 ^ D.length * 16) = (x / 16 * 16) * 16 ^ D.length := by rw [Nat.mul_comm (16 ^ D.length) 16, ← Nat.mul_assoc]
    have h3 : (x / 16 * 16) * 16 ^ D.length ≤ x * 16 ^ D.length := Nat.mul_le_mul_right _ (by omega)
    omega
  · have h1 := h.pow
    have hf := h.few
    by_cases h3 : D.length ≤ 14
    · simp; omega
    · exfalso
      have h4 : D.length = 15 := by omega
      rw [h4] at h1
      have h6 : (16 : Nat) ^ 15 = 1152921504606846976 := by decide
      omega

set_option maxHeartbeats 2000000 in
set_option maxRecDepth 100000 in
theorem formatBits16 (u0 : Nat) (hu64 : u0 < 18446744073709551616) (w : World) (htab : Tabs w) :
    Calls Tryd.prog 107 #[.slice none 0 0, .int .u64 u0, .int .i64 16, .bool false, .bool false] w fun e w' => e = .returned (.tuple #[.slice none 0 0, .string ⟨(hexDigits u0).toArray⟩]) ∧ Below w.heap.size w w' := by
  go_enter Tryd.func107, Tryd.ntmps107
  go_name_bytes TX hTX
  go_name_bytes SM hSM
  have eSM : SM = Lib.digits36 := by rw [← hSM]; decide +kernel
  subst eSM
  clear hSM hTX
  go_wp2_with (first
    | (go_at_call 130; refine (isPow16 _).mono ?_; rintro e w' ⟨rfl, rfl⟩)
    | (go_at_call 131; refine (tz16 _ (htab.alloc _)).mono ?_; rintro e w' ⟨rfl, rfl⟩))
  go_loopw [1, 13] (fun u i wr => ∃ (x k : Nat) (cs : Array Value) (D : List UInt8), u = .int .u64 x ∧ i = .int .i64 k ∧ k ≤ 65 ∧ Hid (HexInv u0 x k D) ∧ Hid (Tail cs k D) ∧ Hid (Blk wr w.heap.size 165 cs) ∧ Below w.heap.size w wr) (fun u _ _ => (RowKit.intOf u).toNat)
  case atStart =>
    refine ⟨u0, 65, Tryd.zeroCells165, [], rfl, rfl, Nat.le_refl _, ?_, ?_, ?_, (Below.refl _ _).alloc (Nat.le_refl _) _⟩
    · exact (⟨by simp, by simp, by simp, by simp⟩ : HexInv u0 u0 65 [])
    · exact (⟨by decide +kernel, by simp, fun j hj => by simp at hj⟩ : Tail Tryd.zeroCells165 65 [])
    · exact Blk.new w _ _
  case round =>
    obtain ⟨x, k, cs, D, rfl, rfl, hk, HI, HT, HB, hb⟩ := hrel
    rename World => W0
    have hle := HI.out.le
    by_cases hlt : x < 16
    · have hk1 : 1 ≤ k := by have := HI.out.len; have := HI.out.few; omega
      obtain ⟨m, rfl⟩ : ∃ m, k = m + 1 := ⟨k - 1, by omega⟩
      have hX : ∀ w, (Instr.index 9 (.string Lib.digits36) (.int .u64 (x : Int))).run Tryd.prog w = .ok (.int .u8 ((hxd x).toNat : Int)) w := idx_digits 9 Tryd.underlying9 .u64 _ _ rfl hlt
      have hB' := HB.out
      have hc : W0.cell? ⟨w.heap.size, m, none⟩ = some (cs[m]'(by have := HT.out.1; omega)) := by rw [hB'.cell, Array.getElem?_eq_getElem]
      have hf := hB'.frozen m
      clear hB'
      have HT' := Lib.hid (HT.out.step (hxd x))
      have HB2 := Lib.hid (HB.out.set_ m (.int .u8 ((hxd x).toNat : Int)))
      have hsl : ∀ W, (Instr.sliceAt 165 (.pointer (some ⟨w.heap.size, 0, none⟩)) (some (.int .i64 (m : Int))) none none).run Tryd.prog W = .ok (.slice (some ⟨w.heap.size, m, none⟩) (65 - m) (65 - m)) W := fun W => by
        have hal : Tryd.prog.arrayLen 165 = 65 := by simp [Program.arrayLen, Tryd.underlying165]
        rw [run_sliceAt_array_l W 165 ⟨w.heap.size, 0, none⟩ (by simp [Program.arrayLen, Program.elem, Tryd.underlying165]) .i64 (m : Int) (by omega) (by rw [hal]; omega)]
        go_simp
        omega
      have hcv : ∀ c, (convert 110 9 (.slice (some ⟨w.heap.size, m, none⟩) (65 - m) c)).run Tryd.prog (W0.setCell ⟨w.heap.size, m, none⟩ (.int .u8 ((hxd x).toNat : Int))) = .ok (.string ⟨(hexDigits u0).toArray⟩) (W0.setCell ⟨w.heap.size, m, none⟩ (.int .u8 ((hxd x).toNat : Int))) := fun c => by
        have h := run_convert_bytes_back (P := Tryd.prog) (W0.setCell ⟨w.heap.size, m, none⟩ (.int .u8 ((hxd x).toNat : Int))) 110 9 5 ⟨w.heap.size, m, none⟩ c (hxd x :: D) Tryd.underlying110 Tryd.underlying5 Tryd.underlying9 (fun j hj => by
          rw [Lib.add_plain, HB2.out.cell]
          exact HT'.out.2.2 j hj)
        have e1 : (hxd x :: D).length = 65 - m := by have := HT'.out.2.1; omega
        have e2 : hexDigits u0 = hxd x :: D := by rw [HI.out.text, hexDigits_small hlt]; rfl
        rw [e1] at h
        rw [e2]
        exact h
      go_wp2
      go_ret2
      exact ⟨rfl, hb.setCell (by simp) _⟩
    · have hrm : 50 ≤ k := by have := HI.out.len; have := HI.out.few; omega
      obtain ⟨m, rfl⟩ : ∃ m, k = m + 1 := ⟨k - 1, by omega⟩
      have hA : bits BinOp.and IntKind.u64 (x : Int) 15 = (x : Int) % 16 := and15 x (by omega)
      have hX : ∀ w, (Instr.index 9 (.string Lib.digits36) (.int .u64 ((x : Int) % 16))).run Tryd.prog w = .ok (.int .u8 ((hxd (x % 16)).toNat : Int)) w := idx_digits 9 Tryd.underlying9 .u64 _ _ (by omega) (by omega)
      have hB' := HB.out
      have hc : W0.cell? ⟨w.heap.size, m, none⟩ = some (cs[m]'(by have := HT.out.1; omega)) := by rw [hB'.cell, Array.getElem?_eq_getElem]
      have hf := hB'.frozen m
      clear hB'
      go_wp2
      go_roundw
      case rel => exact ⟨x / 16, m, cs.setIfInBounds m (.int .u8 ((hxd (x % 16)).toNat : Int)), hxd (x % 16) :: D, by go_num, rfl, by omega, HI.out.step hu64 hlt, HT.out.step _, HB.out.set_ m _, hb.setCell (by simp) _⟩
      case measure => simp [RowKit.intOf]; omega
set_option maxHeartbeats 1000000 in
set_option maxRecDepth 100000 in
theorem FormatInt16 (u : Nat) (hu : u ≤ 1000000) (w : World) (htab : Tabs w) :
    Calls Tryd.prog 68 #[.int .i64 (u : Int), .int .i64 16] w fun e w' => e = .returned (.string ⟨(hexDigits u).toArray⟩) ∧ Below w.heap.size w w' := by
  have CI : Hid (∀ w, Tabs w → Calls Tryd.prog 90 #[.int .i64 (u : Int), .int .i64 16] w fun e w' => e = .returned (.string ⟨(hexDigits u).toArray⟩) ∧ Below w.heap.size w w') := by
    intro w htab
    have CB := Lib.hid (formatBits16 u (by omega) w htab)
    have d1 : decide ((u : Int) < 0) = false := by simp
    have hw : IntKind.u64.wrap (u : Int) = (u : Int) := by rw [IntKind.wrap_u64]; omega
    go_enter Tryd.func90, Tryd.ntmps90
    go_wp2_with fail
    (with_reducible refine (CB.out).mono ?_); rintro e w1 ⟨rfl, hb1⟩
    go_wp2_with fail
    go_ret
    exact ⟨rfl, hb1⟩
  have HT := Lib.hid htab
  go_enter Tryd.func68, Tryd.ntmps68
  go_wp2_with fail
  (with_reducible refine (CI.out _ HT.out).mono ?_); rintro e w1 ⟨rfl, hb1⟩
  go_wp2_with fail
  go_ret
  exact ⟨rfl, hb1⟩
theorem Itoa_any (n : Nat) (hn : n ≤ 1000000000) (w : World) (htab : Tabs w) :
    Calls Tryd.prog 64 #[.int .i64 (n : Int)] w fun e w' => e = .returned (.string ⟨(Lib.decDigits n).toArray⟩) ∧ Below w.heap.size w w' := by
  have e0 : Lib.itoa (n : Int) = Lib.decDigits n := by unfold Lib.itoa; rw [if_neg (by omega), Int.toNat_natCast]
  rw [← e0]
  refine (Tryd.strconv_Itoa (n : Int) (by omega) (by omega) w htab.pow).mono ?_
  rintro e w' ⟨he, k, os, rfl⟩
  exact ⟨he, Lib.below_grow _ _ (Nat.le_refl _) k os⟩
end

section
open Go.RowKit

def digits16 : ByteArray := ⟨#[48, 49, 50, 51, 52, 53, 54, 55, 56, 57, 97, 98, 99, 100, 101, 102]⟩
theorem digits16_at : ∀ p : Fin 16, digits16.extract p.val (p.val + 1) = ⟨#[hxd p.val]⟩ := by decide +kernel
theorem ext16 (d : Nat) (h : d < 16) : (⟨#[48, 49, 50, 51, 52, 53, 54, 55, 56, 57, 97, 98, 99, 100, 101, 102]⟩ : ByteArray).extract d (d + 1) = bs [hxd d] := digits16_at ⟨d, h⟩
theorem dec_small {n : Nat} (h : n < 10) : Lib.decDigits n = [hxd n] := by rw [Lib.decDigits_one h]; unfold hxd; rw [if_pos h]
theorem dec_big {n : Nat} (h : ¬ n < 10) : Lib.decDigits n = Lib.decDigits (n / 10) ++ [hxd (n % 10)] := by rw [Lib.decDigits, dif_neg h]; unfold hxd; rw [if_pos (by omega)]
def strL : Value → Nat | .string u => u.size | _ => 0
/-- the state of the loop: the rest of the number, the digits laid -/
def WI (dgs : Nat → List UInt8) (n x : Nat) (D : List UInt8) : Prop := (D = [] ∧ x = n) ∨ (D ≠ [] ∧ dgs n = (if x = 0 then [] else dgs x) ++ D)
theorem WI_step {dgs : Nat → List UInt8} {b : Nat} (hb : 2 ≤ b) (h1 : ∀ n, n < b → dgs n = [hxd n]) (h2 : ∀ n, ¬ n < b → dgs n = dgs (n / b) ++ [hxd (n % b)]) {n x : Nat} {D : List UInt8} (h : WI dgs n x D) (hx : x ≠ 0 ∨ D = []) : WI dgs n (x / b) (hxd (x % b) :: D) := by
  have key : dgs x = (if x / b = 0 then [] else dgs (x / b)) ++ [hxd (x % b)] := by
    by_cases hl : x < b
    · rw [Nat.div_eq_of_lt hl, if_pos rfl, Nat.mod_eq_of_lt hl, h1 x hl]; rfl
    · have hd : x / b ≠ 0 := by
        have := Nat.div_pos (Nat.le_of_not_lt hl) (by omega)
        omega
      rw [if_neg hd, ← h2 x hl]
  refine .inr ⟨by simp, ?_⟩
  rcases h with ⟨rfl, rfl⟩ | ⟨hD, e⟩
  · rw [key]
  · have hx0 : x ≠ 0 := by
      rcases hx with h | h
      · exact h
      · exact absurd h hD
    rw [e, if_neg hx0, key]
    simp
theorem hex_len (k : Nat) : ∀ n, n < 16 ^ (k + 1) → (hexDigits n).length ≤ k + 1 := by
  induction k with
  | zero => intro n h; rw [hexDigits_small (by simpa using h)]; simp
  | succ k ih =>
    intro n h
    by_cases hs : n < 16
    · rw [hexDigits_small hs]; simp
    · rw [hexDigits_big hs, List.length_append]
      have := ih (n / 16) (by rw [Nat.pow_succ] at h; exact Nat.div_lt_of_lt_mul (by rw [Nat.mul_comm]; exact h))
      simp; omega
theorem dec_len (k : Nat) : ∀ n, n < 10 ^ (k + 1) → (Lib.decDigits n).length ≤ k + 1 := by
  induction k with
  | zero => intro n h; rw [dec_small (by simpa using h)]; simp
  | succ k ih =>
    intro n h
    by_cases hs : n < 10
    · rw [dec_small hs]; simp
    · rw [dec_big hs, List.length_append]
      have := ih (n / 10) (by rw [Nat.pow_succ] at h; exact Nat.div_lt_of_lt_mul (by rw [Nat.mul_comm]; exact h))
      simp; omega

set_option maxRecDepth 100000 in
set_option maxHeartbeats 8000000 in
theorem rWritten10 (n : Nat) (hn : n ≤ 1000000) (w : World) :
    Calls Tryd.prog 73 #[.int .i64 (n : Int), .int .i64 10] w fun e w' => e = .returned (.string (bs (Lib.decDigits n))) ∧ ∃ m, w' = w.drewN m := by
  obtain ⟨S, hS⟩ : ∃ S, bs (Lib.decDigits n) = S := ⟨_, rfl⟩
  have hln := dec_len 6 n (by omega)
  rw [hS]
  have HS := Lib.hid hS
  clear hS
  go_enter Tryd.func73, Tryd.ntmps73
  go_wp2_with fail
  go_loopw [0, 5] (fun nv o wr => ∃ (x m : Nat) (D : List UInt8) (u : ByteArray), nv = .int .i64 (x : Int) ∧ o = .string u ∧ x ≤ n ∧ Hid (u = bs D ∧ WI Lib.decDigits n x D) ∧ wr = w.drewN m) (fun nv o _ => (intOf nv).toNat * 2 + (1 - strL o))
  case atStart => exact ⟨n, 0, [], ⟨#[]⟩, rfl, rfl, Nat.le_refl _, hide ⟨rfl, .inl ⟨rfl, rfl⟩⟩, rfl⟩
  case round =>
    obtain ⟨x, m, D, u, rfl, rfl, hx, HW, rfl⟩ := hrel
    have hDl : D.length ≤ 100 := by
      rcases HW.out.2 with ⟨rfl, _⟩ | ⟨_, e⟩
      · simp
      · rw [e] at hln; simp at hln; omega
    by_cases hx0 : x = 0
    · have dx : decide ((0 : Int) < (x : Int)) = false := by rw [decide_eq_false_iff_not]; omega
      by_cases hD : D = []
      · have hem : u.toList.isEmpty = true := emp_t (by rw [HW.out.1, bs_size, hD]; rfl)
        have hsz : u.size = 0 := by rw [HW.out.1, bs_size, hD]; rfl
        have HN := Lib.hid (WI_step (by omega) (fun n h => dec_small h) (fun n h => dec_big h) HW.out.2 (.inr hD))
        have hext := ext16 0 (by omega)
        have hbs : (bs [hxd 0]).size = 1 := by rw [bs_size]; rfl
        rw [hx0, hD] at HN
        have HU : Hid (bs [hxd 0] ++ u = bs [hxd 0]) := by
          show _ = _
          rw [HW.out.1, hD]
          exact ba_ext (by rw [append_toList, bs_list, bs_list]; rfl)
        clear hD hln
        go_wp2_with fail
        go_quiet (fail)
        go_wp2_with fail
        refine ⟨⟨0, _, [hxd 0], _, rfl, rfl, by omega, hide ⟨?_, HN.out⟩, rfl⟩, ?_⟩
        · first | exact HU.out | (rw [hext]; exact HU.out)
        · have e1 : (bs [hxd 0] ++ u).size = 1 := by rw [HU.out, bs_size]; rfl
          have e2 : ∀ v : ByteArray, v = bs [hxd 0] ++ u → strL (.string v) = 1 := fun v e => by rw [e]; exact e1
          rw [e2 _ (by first | rfl | rw [hext])]
          have e3 : strL (.string u) = 0 := hsz
          rw [e3]
          simp [intOf]
      · have hem : u.toList.isEmpty = false := emp_f (by rw [HW.out.1, bs_size]; exact fun h => hD (List.eq_nil_of_length_eq_zero h))
        have hres : u = S := by
          rw [HW.out.1, ← HS.out]
          rcases HW.out.2 with ⟨h, _⟩ | ⟨_, e⟩
          · exact absurd h hD
          · rw [e, if_pos hx0]; rfl
        subst hres
        clear hD
        go_wp2_with fail
        go_ret
        exact ⟨rfl, _, rfl⟩
    · have dx : decide ((0 : Int) < (x : Int)) = true := by rw [decide_eq_true_iff]; omega
      have HN := Lib.hid (WI_step (by omega) (fun n h => dec_small h) (fun n h => dec_big h) HW.out.2 (.inl hx0))
      have hxb : x / 10 ≤ x := Nat.div_le_self _ _
      have hr16 : x % 10 < 10 := Nat.mod_lt _ (by omega)
      have hdx : x ≠ 0 → x / 10 < x := fun h => Nat.div_lt_self (by omega) (by omega)
      have t1 : Int.tmod (x : Int) 10 = ((x % 10 : Nat) : Int) := by rw [Int.tmod_eq_emod_of_nonneg (by omega)]; rfl
      have t2 : Int.tdiv (x : Int) 10 = ((x / 10 : Nat) : Int) := by rw [Int.tdiv_eq_ediv_of_nonneg (by omega)]; rfl
      obtain ⟨r, hr⟩ : ∃ r, x % 10 = r := ⟨_, rfl⟩
      obtain ⟨q, hq⟩ : ∃ q, x / 10 = q := ⟨_, rfl⟩
      rw [hr] at t1 hr16 HN
      rw [hq] at t2 HN hxb hdx
      have t3 : IntKind.i64.wrap (r : Int) = (r : Int) := by rw [IntKind.wrap_i64]; omega
      have t4 : IntKind.i64.wrap (q : Int) = (q : Int) := by rw [IntKind.wrap_i64]; omega
      have t5 : IntKind.i64.wrap ((r : Int) + 1) = (r : Int) + 1 := by rw [IntKind.wrap_i64]; omega
      have t6 : (0 : Int) ≤ (r : Int) := by omega
      have t7 : (r : Int) + 1 ≤ 16 := by omega
      have t8 : (0 : Int) ≤ (r : Int) + 1 := by omega
      have t9 : (r : Int) ≤ (r : Int) + 1 := by omega
      have hext := ext16 r (by omega)
      have hus : u.size ≤ 1000000 := by rw [HW.out.1, bs_size]; omega
      have hbs : (bs [hxd r]).size = 1 := by rw [bs_size]; rfl
      have HU : Hid (bs [hxd r] ++ u = bs (hxd r :: D)) := by
        show _ = _
        rw [HW.out.1]
        exact ba_ext (by rw [append_toList, bs_list, bs_list, bs_list]; rfl)
      clear hr hq
      clear hln
      go_wp2_with fail
      go_quiet (fail)
      go_wp2_with fail
      refine ⟨⟨q, _, hxd r :: D, _, rfl, rfl, by omega, hide ⟨?_, HN.out⟩, rfl⟩, ?_⟩
      · first | exact HU.out | (rw [hext]; exact HU.out)
      · have e1 : (bs [hxd r] ++ u).size = D.length + 1 := by rw [HU.out, bs_size]; rfl
        have e2 : ∀ v : ByteArray, v = bs [hxd r] ++ u → strL (.string v) = D.length + 1 := fun v e => by rw [e]; exact e1
        rw [e2 _ (by first | rfl | rw [hext])]
        have e3 : (intOf (Value.int .i64 (q : Int))).toNat = q := by simp [intOf]
        have e4 : (intOf (Value.int .i64 (x : Int))).toNat = x := by simp [intOf]
        rw [e3, e4]
        have := hdx hx0
        omega

set_option maxRecDepth 100000 in
set_option maxHeartbeats 8000000 in
theorem rWritten16 (n : Nat) (hn : n ≤ 1000000) (w : World) :
    Calls Tryd.prog 73 #[.int .i64 (n : Int), .int .i64 16] w fun e w' => e = .returned (.string (bs (hexDigits n))) ∧ ∃ m, w' = w.drewN m := by
  obtain ⟨S, hS⟩ : ∃ S, bs (hexDigits n) = S := ⟨_, rfl⟩
  have hln := hex_len 4 n (by omega)
  rw [hS]
  have HS := Lib.hid hS
  clear hS
  go_enter Tryd.func73, Tryd.ntmps73
  go_wp2_with fail
  go_loopw [0, 5] (fun nv o wr => ∃ (x m : Nat) (D : List UInt8) (u : ByteArray), nv = .int .i64 (x : Int) ∧ o = .string u ∧ x ≤ n ∧ Hid (u = bs D ∧ WI hexDigits n x D) ∧ wr = w.drewN m) (fun nv o _ => (intOf nv).toNat * 2 + (1 - strL o))
  case atStart => exact ⟨n, 0, [], ⟨#[]⟩, rfl, rfl, Nat.le_refl _, hide ⟨rfl, .inl ⟨rfl, rfl⟩⟩, rfl⟩
  case round =>
    obtain ⟨x, m, D, u, rfl, rfl, hx, HW, rfl⟩ := hrel
    have hDl : D.length ≤ 100 := by
      rcases HW.out.2 with ⟨rfl, _⟩ | ⟨_, e⟩
      · simp
      · rw [e] at hln; simp at hln; omega
    by_cases hx0 : x = 0
    · have dx : decide ((0 : Int) < (x : Int)) = false := by rw [decide_eq_false_iff_not]; omega
      by_cases hD : D = []
      · have hem : u.toList.isEmpty = true := emp_t (by rw [HW.out.1, bs_size, hD]; rfl)
        have hsz : u.size = 0 := by rw [HW.out.1, bs_size, hD]; rfl
        have HN := Lib.hid (WI_step (by omega) (fun n h => hexDigits_small h) (fun n h => hexDigits_big h) HW.out.2 (.inr hD))
        have hext := ext16 0 (by omega)
        have hbs : (bs [hxd 0]).size = 1 := by rw [bs_size]; rfl
        rw [hx0, hD] at HN
        have HU : Hid (bs [hxd 0] ++ u = bs [hxd 0]) := by
          show _ = _
          rw [HW.out.1, hD]
          exact ba_ext (by rw [append_toList, bs_list, bs_list]; rfl)
        clear hD hln
        go_wp2_with fail
        go_quiet (fail)
        go_wp2_with fail
        refine ⟨⟨0, _, [hxd 0], _, rfl, rfl, by omega, hide ⟨?_, HN.out⟩, rfl⟩, ?_⟩
        · first | exact HU.out | (rw [hext]; exact HU.out)
        · have e1 : (bs [hxd 0] ++ u).size = 1 := by rw [HU.out, bs_size]; rfl
          have e2 : ∀ v : ByteArray, v = bs [hxd 0] ++ u → strL (.string v) = 1 := fun v e => by rw [e]; exact e1
          rw [e2 _ (by first | rfl | rw [hext])]
          have e3 : strL (.string u) = 0 := hsz
          rw [e3]
          simp [intOf]
      · have hem : u.toList.isEmpty = false := emp_f (by rw [HW.out.1, bs_size]; exact fun h => hD (List.eq_nil_of_length_eq_zero h))
        have hres : u = S := by
          rw [HW.out.1, ← HS.out]
          rcases HW.out.2 with ⟨h, _⟩ | ⟨_, e⟩
          · exact absurd h hD
          · rw [e, if_pos hx0]; rfl
        subst hres
        clear hD
        go_wp2_with fail
        go_ret
        exact ⟨rfl, _, rfl⟩
    · have dx : decide ((0 : Int) < (x : Int)) = true := by rw [decide_eq_true_iff]; omega
      have HN := Lib.hid (WI_step (by omega) (fun n h => hexDigits_small h) (fun n h => hexDigits_big h) HW.out.2 (.inl hx0))
      have hxb : x / 16 ≤ x := Nat.div_le_self _ _
      have hr16 : x % 16 < 16 := Nat.mod_lt _ (by omega)
      have hdx : x ≠ 0 → x / 16 < x := fun h => Nat.div_lt_self (by omega) (by omega)
      have t1 : Int.tmod (x : Int) 16 = ((x % 16 : Nat) : Int) := by rw [Int.tmod_eq_emod_of_nonneg (by omega)]; rfl
      have t2 : Int.tdiv (x : Int) 16 = ((x / 16 : Nat) : Int) := by rw [Int.tdiv_eq_ediv_of_nonneg (by omega)]; rfl
      obtain ⟨r, hr⟩ : ∃ r, x % 16 = r := ⟨_, rfl⟩
      obtain ⟨q, hq⟩ : ∃ q, x / 16 = q := ⟨_, rfl⟩
      rw [hr] at t1 hr16 HN
      rw [hq] at t2 HN hxb hdx
      have t3 : IntKind.i64.wrap (r : Int) = (r : Int) := by rw [IntKind.wrap_i64]; omega
      have t4 : IntKind.i64.wrap (q : Int) = (q : Int) := by rw [IntKind.wrap_i64]; omega
      have t5 : IntKind.i64.wrap ((r : Int) + 1) = (r : Int) + 1 := by rw [IntKind.wrap_i64]; omega
      have t6 : (0 : Int) ≤ (r : Int) := by omega
      have t7 : (r : Int) + 1 ≤ 16 := by omega
      have t8 : (0 : Int) ≤ (r : Int) + 1 := by omega
      have t9 : (r : Int) ≤ (r : Int) + 1 := by omega
      have hext := ext16 r (by omega)
      have hus : u.size ≤ 1000000 := by rw [HW.out.1, bs_size]; omega
      have hbs : (bs [hxd r]).size = 1 := by rw [bs_size]; rfl
      have HU : Hid (bs [hxd r] ++ u = bs (hxd r :: D)) := by
        show _ = _
        rw [HW.out.1]
        exact ba_ext (by rw [append_toList, bs_list, bs_list, bs_list]; rfl)
      clear hr hq
      clear hln
      go_wp2_with fail
      go_quiet (fail)
      go_wp2_with fail
      refine ⟨⟨q, _, hxd r :: D, _, rfl, rfl, by omega, hide ⟨?_, HN.out⟩, rfl⟩, ?_⟩
      · first | exact HU.out | (rw [hext]; exact HU.out)
      · have e1 : (bs [hxd r] ++ u).size = D.length + 1 := by rw [HU.out, bs_size]; rfl
        have e2 : ∀ v : ByteArray, v = bs [hxd r] ++ u → strL (.string v) = D.length + 1 := fun v e => by rw [e]; exact e1
        rw [e2 _ (by first | rfl | rw [hext])]
        have e3 : (intOf (Value.int .i64 (q : Int))).toNat = q := by simp [intOf]
        have e4 : (intOf (Value.int .i64 (x : Int))).toNat = x := by simp [intOf]
        rw [e3, e4]
        have := hdx hx0
        omega
end

section
open Go.RowKit

/-- whether a framing is valid: the error -/
def ckT (K n : Int) : Nat := if K < 1 ∨ 3 < K then 10 else if n < 0 ∨ 2048 < n ∨ (K ≠ 2 ∧ n ≠ 0) then 2 else 0
theorem ckT_ok {K n : Int} (h : ckT K n = 0) : 1 ≤ K ∧ K ≤ 3 ∧ 0 ≤ n ∧ n ≤ 2048 ∧ (K = 2 ∨ n = 0) := by
  unfold ckT at h
  split at h
  · simp at h
  · split at h
    · simp at h
    · omega

theorem ck10 {K n : Int} (h : K < 1 ∨ 3 < K) : ckT K n = 10 := if_pos h
theorem ck2 {K n : Int} (h1 : 1 ≤ K ∧ K ≤ 3) (h : n < 0 ∨ 2048 < n ∨ (K ≠ 2 ∧ n ≠ 0)) : ckT K n = 2 := by
  unfold ckT; rw [if_neg (by omega), if_pos h]
theorem ck0 {K n : Int} (h1 : 1 ≤ K ∧ K ≤ 3) (h : 0 ≤ n ∧ n ≤ 2048 ∧ (K = 2 ∨ n = 0)) : ckT K n = 0 := by
  unfold ckT; rw [if_neg (by omega), if_neg (by omega)]
set_option maxRecDepth 100000 in
set_option maxHeartbeats 4000000 in
theorem pCheck (K n : Int) (w : World) : Calls Tryd.prog 28 #[.agg #[.int .i64 K, .int .i64 n]] w fun e w' => e = .returned (.int .i64 (ckT K n : Nat)) ∧ Below w.heap.size w w' := by
  obtain ⟨R, hR⟩ : ∃ R, ckT K n = R := ⟨_, rfl⟩
  rw [hR]
  have HR := Lib.hid hR
  clear hR
  go_enter Tryd.func28, Tryd.ntmps28
  go_wp2_with fail
  all_goals (
    go_ret
    refine ⟨?_, (Below.refl _ _).alloc (Nat.le_refl _) _⟩
    rw [← HR.out]
    clear HR
    try simp only [bne_iff_ne, bne_eq_false_iff_eq, ne_eq] at *
    first
      | (rw [ck10 (by omega)]; rfl)
      | (rw [ck2 (by omega) (by omega)]; rfl)
      | (rw [ck0 (by omega) (by omega)]; rfl))
set_option maxRecDepth 100000 in
set_option maxHeartbeats 4000000 in
theorem rCheck (K n : Int) (w : World) : Calls Tryd.prog 46 #[.agg #[.int .i64 K, .int .i64 n]] w fun e w' => e = .returned (.int .i64 (ckT K n : Nat)) ∧ Below w.heap.size w w' := by
  obtain ⟨R, hR⟩ : ∃ R, ckT K n = R := ⟨_, rfl⟩
  rw [hR]
  have HR := Lib.hid hR
  clear hR
  go_enter Tryd.func46, Tryd.ntmps46
  go_wp2_with fail
  all_goals (
    go_ret
    refine ⟨?_, (Below.refl _ _).alloc (Nat.le_refl _) _⟩
    rw [← HR.out]
    clear HR
    try simp only [bne_iff_ne, bne_eq_false_iff_eq, ne_eq] at *
    first
      | (rw [ck10 (by omega)]; rfl)
      | (rw [ck2 (by omega) (by omega)]; rfl)
      | (rw [ck0 (by omega) (by omega)]; rfl))
-- printed by genf9.py from here on
/-- what is left of a body, or the error -/
def leftT (K n got : Int) : Int × Nat := if ckT K n ≠ 0 then (0, ckT K n) else if got < 0 ∨ (K ≠ 3 ∧ n < got) then (0, 2) else if K = 3 then (-1, 0) else (n - got, 0)
/-- the bytes that carry a body, or the error -/
def bytesT (K n : Int) (b : List UInt8) : List UInt8 × Nat :=
  if ckT K n ≠ 0 then ([], ckT K n) else if 2048 < b.length then ([], 4) else if K ≠ 3 ∧ (b.length : Int) ≠ n then ([], 3) else if K ≠ 3 then (b, 0)
  else ((if b = [] then [] else hexDigits b.length ++ [13, 10] ++ b ++ [13, 10]) ++ [48, 13, 10, 13, 10], 0)
/-- the fields of a framing, or the error -/
def fieldsT (K n : Int) : List Fld × Nat :=
  if ckT K n ≠ 0 then ([], ckT K n) else if K = 2 then ([(clN, Lib.decDigits n.toNat)], 0) else if K = 3 then ([(teN, ckN)], 0) else ([], 0)
theorem left_e {K n got : Int} {E : Nat} (h : ckT K n = E) (hE : E ≠ 0) : leftT K n got = (0, E) := by unfold leftT; rw [h, if_pos hE]
theorem left_0 {K n got : Int} (h : ckT K n = 0) : leftT K n got = if got < 0 ∨ (K ≠ 3 ∧ n < got) then (0, 2) else if K = 3 then (-1, 0) else (n - got, 0) := by unfold leftT; rw [h, if_neg (by simp)]
theorem fields_e {K n : Int} {E : Nat} (h : ckT K n = E) (hE : E ≠ 0) : fieldsT K n = ([], E) := by unfold fieldsT; rw [h, if_pos hE]
theorem fields_0 {K n : Int} (h : ckT K n = 0) : fieldsT K n = if K = 2 then ([(clN, Lib.decDigits n.toNat)], 0) else if K = 3 then ([(teN, ckN)], 0) else ([], 0) := by unfold fieldsT; rw [h, if_neg (by simp)]
theorem bytes_e {K n : Int} {b : List UInt8} {E : Nat} (h : ckT K n = E) (hE : E ≠ 0) : bytesT K n b = ([], E) := by unfold bytesT; rw [h, if_pos hE]
theorem bytes_0 {K n : Int} {b : List UInt8} (h : ckT K n = 0) : bytesT K n b = if 2048 < b.length then ([], 4) else if K ≠ 3 ∧ (b.length : Int) ≠ n then ([], 3) else if K ≠ 3 then (b, 0) else ((if b = [] then [] else hexDigits b.length ++ [13, 10] ++ b ++ [13, 10]) ++ [48, 13, 10, 13, 10], 0) := by unfold bytesT; rw [h, if_neg (by simp)]
/-- fields handed back, and an error -/
def FldsPost9 (t : List Fld × Nat) (w : World) (e : Ending) (w' : World) : Prop :=
  ∃ A cap, e = .returned (.tuple #[.slice A t.1.length cap, .int .i64 t.2]) ∧ t.1.length ≤ cap ∧ Reads w' w'.heap.size 2 A t.1.length (fldsC t.1) ∧ Below w.heap.size w w'

set_option maxRecDepth 100000 in
set_option maxHeartbeats 8000000 in
theorem pLeft (K n got : Int) (w : World) : Calls Tryd.prog 37 #[.agg #[.int .i64 K, .int .i64 n], .int .i64 got] w fun e w' => e = .returned (.tuple #[.int .i64 (leftT K n got).1, .int .i64 (leftT K n got).2]) ∧ Below w.heap.size w w' := by
  have hb0 : Below w.heap.size w (w.alloc (.cells #[.int .i64 K, .int .i64 n] 48)) := (Below.refl _ _).alloc (Nat.le_refl _) _
  have m0 := Blk.new w 48 #[.int .i64 K, .int .i64 n]
  have CK := Lib.hid (pCheck K n)
  obtain ⟨E, hE⟩ : ∃ E, ckT K n = E := ⟨_, rfl⟩
  rw [hE] at CK
  obtain ⟨R, hR⟩ : ∃ R, leftT K n got = R := ⟨_, rfl⟩
  rw [hR]
  by_cases h0 : E = 0
  · subst h0
    rw [left_0 hE] at hR
    obtain ⟨k1, k3, n0, n2, kn⟩ := ckT_ok hE
    have HR := Lib.hid hR
    have HB := Lib.hid (And.intro hb0 m0)
    have e0 : (((0 : Nat) : Int) != 0) = false := rfl
    have e0' : (((0 : Nat) : Int) == 0) = true := rfl
    have hwr : 0 ≤ got → got ≤ n → IntKind.i64.wrap (n - got) = n - got := fun _ _ => by rw [IntKind.wrap_i64]; omega
    clear hR hb0 m0 hE
    go_enter Tryd.func37, Tryd.ntmps37
    go_wp2_with fail
    (with_reducible refine (CK.out _).mono ?_); rintro e w1 ⟨rfl, g1⟩
    have h1 := HB.out.1.trans (g1.mono HB.out.1.size)
    have m1 := HB.out.2.below g1 HB.out.2.lt
    have q0 : w1.cell? ⟨w.heap.size, 0, none⟩ = some (.int .i64 K) := m1.cell 0
    have q1 : w1.cell? ⟨w.heap.size, 1, none⟩ = some (.int .i64 n) := m1.cell 1
    clear HB g1 m1
    by_cases g0 : got < 0
    · have d0 : decide (got < 0) = true := decide_eq_true g0
      have hres : R = (0, 2) := by rw [← HR.out, if_pos (.inl g0)]
      subst hres
      clear hwr
      go_wp2_with fail
      go_ret2
      exact ⟨rfl, h1⟩
    · have d0 : decide (got < 0) = false := decide_eq_false g0
      by_cases hk : K = 3
      · subst hk
        have hres : R = (-1, 0) := by rw [← HR.out, if_neg (by omega), if_pos rfl]
        subst hres
        clear hwr
        go_wp2_with fail
        go_ret2
        exact ⟨rfl, h1⟩
      · have dk : (K != 3) = true := by simp [hk]
        have dk' : (K == 3) = false := by simp [hk]
        by_cases hg : n < got
        · have d1 : decide (n < got) = true := decide_eq_true hg
          have hres : R = (0, 2) := by rw [← HR.out, if_pos (.inr ⟨hk, hg⟩)]
          subst hres
          clear hwr hk
          go_wp2_with fail
          go_ret2
          exact ⟨rfl, h1⟩
        · have d1 : decide (n < got) = false := decide_eq_false hg
          have hres : R = (n - got, 0) := by rw [← HR.out, if_neg (by omega), if_neg hk]
          subst hres
          have hw' := hwr (by omega) (by omega)
          clear hwr hk
          go_wp2_with fail
          go_ret2
          exact ⟨rfl, h1⟩
  · rw [left_e hE h0] at hR
    subst hR
    have HB := Lib.hid hb0
    have e0 : ((E : Int) != 0) = true := by rw [bne_iff_ne]; omega
    have e0' : ((E : Int) == 0) = false := by rw [beq_eq_false_iff_ne]; omega
    clear hb0 m0 hE
    go_enter Tryd.func37, Tryd.ntmps37
    go_wp2_with fail
    (with_reducible refine (CK.out _).mono ?_); rintro e w1 ⟨rfl, g1⟩
    have h1 := HB.out.trans (g1.mono HB.out.size)
    go_wp2_with fail
    go_ret2
    exact ⟨rfl, h1⟩

set_option maxRecDepth 100000 in
set_option maxHeartbeats 8000000 in
theorem rLeft (K n got : Int) (w : World) : Calls Tryd.prog 48 #[.agg #[.int .i64 K, .int .i64 n], .int .i64 got] w fun e w' => e = .returned (.tuple #[.int .i64 (leftT K n got).1, .int .i64 (leftT K n got).2]) ∧ Below w.heap.size w w' := by
  have hb0 : Below w.heap.size w (w.alloc (.cells #[.int .i64 K, .int .i64 n] 48)) := (Below.refl _ _).alloc (Nat.le_refl _) _
  have m0 := Blk.new w 48 #[.int .i64 K, .int .i64 n]
  have CK := Lib.hid (rCheck K n)
  obtain ⟨E, hE⟩ : ∃ E, ckT K n = E := ⟨_, rfl⟩
  rw [hE] at CK
  obtain ⟨R, hR⟩ : ∃ R, leftT K n got = R := ⟨_, rfl⟩
  rw [hR]
  by_cases h0 : E = 0
  · subst h0
    rw [left_0 hE] at hR
    obtain ⟨k1, k3, n0, n2, kn⟩ := ckT_ok hE
    have HR := Lib.hid hR
    have HB := Lib.hid (And.intro hb0 m0)
    have e0 : (((0 : Nat) : Int) != 0) = false := rfl
    have e0' : (((0 : Nat) : Int) == 0) = true := rfl
    have hwr : 0 ≤ got → got ≤ n → IntKind.i64.wrap (n - got) = n - got := fun _ _ => by rw [IntKind.wrap_i64]; omega
    clear hR hb0 m0 hE
    go_enter Tryd.func48, Tryd.ntmps48
    go_wp2_with fail
    (with_reducible refine (CK.out _).mono ?_); rintro e w1 ⟨rfl, g1⟩
    have h1 := HB.out.1.trans (g1.mono HB.out.1.size)
    have m1 := HB.out.2.below g1 HB.out.2.lt
    have q0 : w1.cell? ⟨w.heap.size, 0, none⟩ = some (.int .i64 K) := m1.cell 0
    have q1 : w1.cell? ⟨w.heap.size, 1, none⟩ = some (.int .i64 n) := m1.cell 1
    clear HB g1 m1
    by_cases g0 : got < 0
    · have d0 : decide (got < 0) = true := decide_eq_true g0
      have hres : R = (0, 2) := by rw [← HR.out, if_pos (.inl g0)]
      subst hres
      clear hwr
      go_wp2_with fail
      go_ret2
      exact ⟨rfl, h1⟩
    · have d0 : decide (got < 0) = false := decide_eq_false g0
      by_cases hk : K = 3
      · subst hk
        have hres : R = (-1, 0) := by rw [← HR.out, if_neg (by omega), if_pos rfl]
        subst hres
        clear hwr
        go_wp2_with fail
        go_ret2
        exact ⟨rfl, h1⟩
      · have dk : (K != 3) = true := by simp [hk]
        have dk' : (K == 3) = false := by simp [hk]
        by_cases hg : n < got
        · have d1 : decide (n < got) = true := decide_eq_true hg
          have hres : R = (0, 2) := by rw [← HR.out, if_pos (.inr ⟨hk, hg⟩)]
          subst hres
          clear hwr hk
          go_wp2_with fail
          go_ret2
          exact ⟨rfl, h1⟩
        · have d1 : decide (n < got) = false := decide_eq_false hg
          have hres : R = (n - got, 0) := by rw [← HR.out, if_neg (by omega), if_neg hk]
          subst hres
          have hw' := hwr (by omega) (by omega)
          clear hwr hk
          go_wp2_with fail
          go_ret2
          exact ⟨rfl, h1⟩
  · rw [left_e hE h0] at hR
    subst hR
    have HB := Lib.hid hb0
    have e0 : ((E : Int) != 0) = true := by rw [bne_iff_ne]; omega
    have e0' : ((E : Int) == 0) = false := by rw [beq_eq_false_iff_ne]; omega
    clear hb0 m0 hE
    go_enter Tryd.func48, Tryd.ntmps48
    go_wp2_with fail
    (with_reducible refine (CK.out _).mono ?_); rintro e w1 ⟨rfl, g1⟩
    have h1 := HB.out.trans (g1.mono HB.out.size)
    go_wp2_with fail
    go_ret2
    exact ⟨rfl, h1⟩

set_option maxRecDepth 100000 in
set_option maxHeartbeats 8000000 in
theorem pFields (K n : Int) (w : World) (htab : Tabs w) : Calls Tryd.prog 25 #[.agg #[.int .i64 K, .int .i64 n]] w (FldsPost9 (fieldsT K n) w) := by
  have hb0 : Below w.heap.size w (w.alloc (.cells #[.int .i64 K, .int .i64 n] 48)) := (Below.refl _ _).alloc (Nat.le_refl _) _
  have m0 := Blk.new w 48 #[.int .i64 K, .int .i64 n]
  have CK := Lib.hid (pCheck K n)
  obtain ⟨E, hE⟩ : ∃ E, ckT K n = E := ⟨_, rfl⟩
  rw [hE] at CK
  obtain ⟨R, hR⟩ : ∃ R, fieldsT K n = R := ⟨_, rfl⟩
  rw [hR]
  by_cases h0 : E = 0
  · subst h0
    rw [fields_0 hE] at hR
    obtain ⟨k1, k3, n0, n2, kn⟩ := ckT_ok hE
    obtain ⟨m, rfl⟩ : ∃ m : Nat, n = (m : Int) := ⟨n.toNat, by omega⟩
    rw [Int.toNat_natCast] at hR
    have CI := Lib.hid (fun w ht => Itoa_any m (by omega) w ht)
    have HR := Lib.hid hR
    have HB := Lib.hid (And.intro hb0 m0)
    have HT := Lib.hid htab
    have e0 : (((0 : Nat) : Int) != 0) = false := rfl
    clear hR hb0 m0 hE
    go_enter Tryd.func25, Tryd.ntmps25
    go_wp2_with fail
    (with_reducible refine (CK.out _).mono ?_); rintro e w1 ⟨rfl, g1⟩
    have h1 := HB.out.1.trans (g1.mono HB.out.1.size)
    have m1 := HB.out.2.below g1 HB.out.2.lt
    have q0 : w1.cell? ⟨w.heap.size, 0, none⟩ = some (.int .i64 K) := m1.cell 0
    have q1 : w1.cell? ⟨w.heap.size, 1, none⟩ = some (.int .i64 (m : Int)) := m1.cell 1
    clear HB g1 m1
    obtain rfl | rfl | rfl : K = 1 ∨ K = 2 ∨ K = 3 := by omega
    · have hres : R = ([], 0) := by rw [← HR.out]; rfl
      subst hres
      go_wp2_with fail
      go_ret2
      exact ⟨none, 0, rfl, Nat.le_refl _, Reads.none_, h1⟩
    · have hres : R = ([(clN, Lib.decDigits m)], 0) := by rw [← HR.out]; rfl
      subst hres
      go_wp2_with fail
      (with_reducible refine (CI.out _ (HT.out.below h1)).mono ?_); rintro e w2 ⟨rfl, g2⟩
      have h2 := h1.trans (g2.mono h1.size)
      have hF := reads_newF w2 36 [(clN, Lib.decDigits m)] #[.string (bs clN), .string (bs (Lib.decDigits m))] rfl
      have h3 := h2.alloc h2.size (.cells #[.string (bs clN), .string (bs (Lib.decDigits m))] 36)
      clear q0 q1
      go_wp2_with fail
      go_ret2
      exact ⟨_, 1, rfl, Nat.le_refl _, hF, h3⟩
    · have hres : R = ([(teN, ckN)], 0) := by rw [← HR.out]; rfl
      subst hres
      have hF := reads_newF w1 36 [(teN, ckN)] #[.string (bs teN), .string (bs ckN)] rfl
      have h3 := h1.alloc h1.size (.cells #[.string (bs teN), .string (bs ckN)] 36)
      clear CI
      go_wp2_with fail
      go_ret2
      exact ⟨_, 1, rfl, Nat.le_refl _, hF, h3⟩
  · rw [fields_e hE h0] at hR
    subst hR
    have HB := Lib.hid hb0
    have e0 : ((E : Int) != 0) = true := by rw [bne_iff_ne]; omega
    clear hb0 m0 hE
    go_enter Tryd.func25, Tryd.ntmps25
    go_wp2_with fail
    (with_reducible refine (CK.out _).mono ?_); rintro e w1 ⟨rfl, g1⟩
    have h1 := HB.out.trans (g1.mono HB.out.size)
    go_wp2_with fail
    go_ret2
    exact ⟨none, 0, rfl, Nat.le_refl _, Reads.none_, h1⟩

set_option maxRecDepth 100000 in
set_option maxHeartbeats 8000000 in
theorem rFields (K n : Int) (w : World) : Calls Tryd.prog 45 #[.agg #[.int .i64 K, .int .i64 n]] w (FldsPost9 (fieldsT K n) w) := by
  have hb0 : Below w.heap.size w (w.alloc (.cells #[.int .i64 K, .int .i64 n] 48)) := (Below.refl _ _).alloc (Nat.le_refl _) _
  have m0 := Blk.new w 48 #[.int .i64 K, .int .i64 n]
  have CK := Lib.hid (rCheck K n)
  obtain ⟨E, hE⟩ : ∃ E, ckT K n = E := ⟨_, rfl⟩
  rw [hE] at CK
  obtain ⟨R, hR⟩ : ∃ R, fieldsT K n = R := ⟨_, rfl⟩
  rw [hR]
  by_cases h0 : E = 0
  · subst h0
    rw [fields_0 hE] at hR
    obtain ⟨k1, k3, n0, n2, kn⟩ := ckT_ok hE
    obtain ⟨m, rfl⟩ : ∃ m : Nat, n = (m : Int) := ⟨n.toNat, by omega⟩
    rw [Int.toNat_natCast] at hR
    have CI := Lib.hid (fun w => rWritten10 m (by omega) w)
    have HR := Lib.hid hR
    have HB := Lib.hid (And.intro hb0 m0)
    skip
    have e0 : (((0 : Nat) : Int) != 0) = false := rfl
    clear hR hb0 m0 hE
    go_enter Tryd.func45, Tryd.ntmps45
    go_wp2_with fail
    (with_reducible refine (CK.out _).mono ?_); rintro e w1 ⟨rfl, g1⟩
    have h1 := HB.out.1.trans (g1.mono HB.out.1.size)
    have m1 := HB.out.2.below g1 HB.out.2.lt
    have q0 : w1.cell? ⟨w.heap.size, 0, none⟩ = some (.int .i64 K) := m1.cell 0
    have q1 : w1.cell? ⟨w.heap.size, 1, none⟩ = some (.int .i64 (m : Int)) := m1.cell 1
    clear HB g1 m1
    obtain rfl | rfl | rfl : K = 1 ∨ K = 2 ∨ K = 3 := by omega
    · have hres : R = ([], 0) := by rw [← HR.out]; rfl
      subst hres
      go_wp2_with fail
      go_ret2
      exact ⟨none, 0, rfl, Nat.le_refl _, Reads.none_, h1⟩
    · have hres : R = ([(clN, Lib.decDigits m)], 0) := by rw [← HR.out]; rfl
      subst hres
      go_wp2_with fail
      (with_reducible refine (CI.out _).mono ?_); rintro e w2 ⟨rfl, g2⟩
      obtain ⟨mm, rfl⟩ := g2
      have g2 := below_drewN (Below.refl w1.heap.size w1) mm
      generalize w1.drewN mm = w2 at g2 ⊢
      have h2 := h1.trans (g2.mono h1.size)
      have hF := reads_newF w2 36 [(clN, Lib.decDigits m)] #[.string (bs clN), .string (bs (Lib.decDigits m))] rfl
      have h3 := h2.alloc h2.size (.cells #[.string (bs clN), .string (bs (Lib.decDigits m))] 36)
      clear q0 q1
      go_wp2_with fail
      go_ret2
      exact ⟨_, 1, rfl, Nat.le_refl _, hF, h3⟩
    · have hres : R = ([(teN, ckN)], 0) := by rw [← HR.out]; rfl
      subst hres
      have hF := reads_newF w1 36 [(teN, ckN)] #[.string (bs teN), .string (bs ckN)] rfl
      have h3 := h1.alloc h1.size (.cells #[.string (bs teN), .string (bs ckN)] 36)
      clear CI
      go_wp2_with fail
      go_ret2
      exact ⟨_, 1, rfl, Nat.le_refl _, hF, h3⟩
  · rw [fields_e hE h0] at hR
    subst hR
    have HB := Lib.hid hb0
    have e0 : ((E : Int) != 0) = true := by rw [bne_iff_ne]; omega
    clear hb0 m0 hE
    go_enter Tryd.func45, Tryd.ntmps45
    go_wp2_with fail
    (with_reducible refine (CK.out _).mono ?_); rintro e w1 ⟨rfl, g1⟩
    have h1 := HB.out.trans (g1.mono HB.out.size)
    go_wp2_with fail
    go_ret2
    exact ⟨none, 0, rfl, Nat.le_refl _, Reads.none_, h1⟩

set_option maxRecDepth 100000 in
set_option maxHeartbeats 8000000 in
theorem pBytes (K n : Int) (s : ByteArray) (hs : s.size ≤ 1000000) (w : World) (htab : Tabs w) : Calls Tryd.prog 36 #[.agg #[.int .i64 K, .int .i64 n], .string s] w fun e w' => e = .returned (.tuple #[.string (bs (bytesT K n s.data.toList).1), .int .i64 (bytesT K n s.data.toList).2]) ∧ Below w.heap.size w w' := by
  have hb0 : Below w.heap.size w (w.alloc (.cells #[.int .i64 K, .int .i64 n] 48)) := (Below.refl _ _).alloc (Nat.le_refl _) _
  have m0 := Blk.new w 48 #[.int .i64 K, .int .i64 n]
  have CK := Lib.hid (pCheck K n)
  obtain ⟨E, hE⟩ : ∃ E, ckT K n = E := ⟨_, rfl⟩
  rw [hE] at CK
  obtain ⟨R, hR⟩ : ∃ R, bytesT K n s.data.toList = R := ⟨_, rfl⟩
  rw [hR]
  by_cases h0 : E = 0
  · subst h0
    rw [bytes_0 hE, size_l] at hR
    obtain ⟨k1, k3, n0, n2, kn⟩ := ckT_ok hE
    have HR := Lib.hid hR
    have HB := Lib.hid (And.intro hb0 m0)
    have HT := Lib.hid htab
    have e0 : (((0 : Nat) : Int) != 0) = false := rfl
    clear hR hb0 m0 hE
    go_enter Tryd.func36, Tryd.ntmps36
    go_wp2_with fail
    (with_reducible refine (CK.out _).mono ?_); rintro e w1 ⟨rfl, g1⟩
    have h1 := HB.out.1.trans (g1.mono HB.out.1.size)
    have m1 := HB.out.2.below g1 HB.out.2.lt
    have q0 : w1.cell? ⟨w.heap.size, 0, none⟩ = some (.int .i64 K) := m1.cell 0
    have q1 : w1.cell? ⟨w.heap.size, 1, none⟩ = some (.int .i64 n) := m1.cell 1
    clear HB g1 m1
    by_cases hl : 2048 < s.size
    · have dl : decide ((2048 : Int) < (s.size : Int)) = true := by simp; omega
      have hres : R = ([], 4) := by rw [← HR.out, if_pos hl]
      subst hres
      go_wp2_with fail
      go_ret2
      exact ⟨rfl, h1⟩
    · have dl : decide ((2048 : Int) < (s.size : Int)) = false := by simp; omega
      rw [if_neg hl] at HR
      by_cases hk : K = 3
      · subst hk
        rw [if_neg (by simp), if_neg (by simp)] at HR
        by_cases hb : s.size = 0
        · have hem : s.toList.isEmpty = true := emp_t hb
          have hnil : s.data.toList = [] := List.eq_nil_of_length_eq_zero (by rw [size_l]; exact hb)
          rw [if_pos hnil] at HR
          have hres : R = ([48, 13, 10, 13, 10], 0) := by rw [← HR.out]; rfl
          subst hres
          clear hnil hb
          go_wp2_with fail
          go_ret2
          exact ⟨rfl, h1⟩
        · have hem : s.toList.isEmpty = false := emp_f hb
          have hnil : ¬ s.data.toList = [] := fun h => hb (by rw [← size_l, h]; rfl)
          rw [if_neg hnil] at HR
          have cI : ∀ w, Tabs w → Calls Tryd.prog 68 #[.int .i64 (s.size : Int), .int .i64 16] w fun e w' => e = .returned (.string (bs (hexDigits s.size))) ∧ Below w.heap.size w w' := fun w ht => FormatInt16 s.size (by omega) w ht
          have hxl := hex_len 3 s.size (by omega)
          obtain ⟨hx, hhx⟩ : ∃ hx : ByteArray, bs (hexDigits s.size) = hx := ⟨_, rfl⟩
          have hxs : hx.size ≤ 4 := by rw [← hhx, bs_size]; exact hxl
          have HU : Hid ((((hx ++ ⟨#[13, 10]⟩) ++ s) ++ ⟨#[13, 10]⟩) ++ ⟨#[48, 13, 10, 13, 10]⟩ = bs R.1 ∧ R.2 = 0) := by
            show _ ∧ _
            rw [← HR.out]
            refine ⟨?_, rfl⟩
            rw [← hhx]
            exact ba_ext (by first | (simp only [append_toList, bs_list]; done) | (simp only [append_toList, bs_list]; simp))
          rw [hhx] at cI
          have CI := Lib.hid cI
          clear cI hnil hb hhx hxl
          go_wp2_with fail
          (with_reducible refine (CI.out _ (HT.out.below h1)).mono ?_); rintro e w2 ⟨rfl, g2⟩
          have h2 := h1.trans (g2.mono h1.size)
          clear q0 q1
          go_wp2_with fail
          go_ret2
          refine ⟨?_, h2⟩
          rw [← HU.out.1, HU.out.2]
          rfl
      · have dk : (K != 3) = true := by simp [hk]
        by_cases hg : (s.size : Int) = n
        · have d1 : ((s.size : Int) != n) = false := by simp [hg]
          have hres : R = (s.data.toList, 0) := by rw [← HR.out, if_neg (by simp [hg]), if_pos hk]
          subst hres
          clear hk hg
          go_wp2_with fail
          go_ret2
          exact ⟨rfl, h1⟩
        · have d1 : ((s.size : Int) != n) = true := by simp [hg]
          have hres : R = ([], 3) := by rw [← HR.out, if_pos ⟨hk, hg⟩]
          subst hres
          clear hk hg
          go_wp2_with fail
          go_ret2
          exact ⟨rfl, h1⟩
  · rw [bytes_e hE h0] at hR
    subst hR
    have HB := Lib.hid hb0
    have e0 : ((E : Int) != 0) = true := by rw [bne_iff_ne]; omega
    clear hb0 m0 hE
    go_enter Tryd.func36, Tryd.ntmps36
    go_wp2_with fail
    (with_reducible refine (CK.out _).mono ?_); rintro e w1 ⟨rfl, g1⟩
    have h1 := HB.out.trans (g1.mono HB.out.size)
    go_wp2_with fail
    go_ret2
    exact ⟨rfl, h1⟩

set_option maxRecDepth 100000 in
set_option maxHeartbeats 8000000 in
theorem rBytes (K n : Int) (s : ByteArray) (hs : s.size ≤ 1000000) (w : World) : Calls Tryd.prog 47 #[.agg #[.int .i64 K, .int .i64 n], .string s] w fun e w' => e = .returned (.tuple #[.string (bs (bytesT K n s.data.toList).1), .int .i64 (bytesT K n s.data.toList).2]) ∧ Below w.heap.size w w' := by
  have hb0 : Below w.heap.size w (w.alloc (.cells #[.int .i64 K, .int .i64 n] 48)) := (Below.refl _ _).alloc (Nat.le_refl _) _
  have m0 := Blk.new w 48 #[.int .i64 K, .int .i64 n]
  have CK := Lib.hid (rCheck K n)
  obtain ⟨E, hE⟩ : ∃ E, ckT K n = E := ⟨_, rfl⟩
  rw [hE] at CK
  obtain ⟨R, hR⟩ : ∃ R, bytesT K n s.data.toList = R := ⟨_, rfl⟩
  rw [hR]
  by_cases h0 : E = 0
  · subst h0
    rw [bytes_0 hE, size_l] at hR
    obtain ⟨k1, k3, n0, n2, kn⟩ := ckT_ok hE
    have HR := Lib.hid hR
    have HB := Lib.hid (And.intro hb0 m0)
    skip
    have e0 : (((0 : Nat) : Int) != 0) = false := rfl
    clear hR hb0 m0 hE
    go_enter Tryd.func47, Tryd.ntmps47
    go_wp2_with fail
    (with_reducible refine (CK.out _).mono ?_); rintro e w1 ⟨rfl, g1⟩
    have h1 := HB.out.1.trans (g1.mono HB.out.1.size)
    have m1 := HB.out.2.below g1 HB.out.2.lt
    have q0 : w1.cell? ⟨w.heap.size, 0, none⟩ = some (.int .i64 K) := m1.cell 0
    have q1 : w1.cell? ⟨w.heap.size, 1, none⟩ = some (.int .i64 n) := m1.cell 1
    clear HB g1 m1
    by_cases hl : 2048 < s.size
    · have dl : decide ((2048 : Int) < (s.size : Int)) = true := by simp; omega
      have hres : R = ([], 4) := by rw [← HR.out, if_pos hl]
      subst hres
      go_wp2_with fail
      go_ret2
      exact ⟨rfl, h1⟩
    · have dl : decide ((2048 : Int) < (s.size : Int)) = false := by simp; omega
      rw [if_neg hl] at HR
      by_cases hk : K = 3
      · subst hk
        rw [if_neg (by simp), if_neg (by simp)] at HR
        by_cases hb : s.size = 0
        · have hem : s.toList.isEmpty = true := emp_t hb
          have hnil : s.data.toList = [] := List.eq_nil_of_length_eq_zero (by rw [size_l]; exact hb)
          rw [if_pos hnil] at HR
          have hres : R = ([48, 13, 10, 13, 10], 0) := by rw [← HR.out]; rfl
          subst hres
          clear hnil hb
          go_wp2_with fail
          go_ret2
          exact ⟨rfl, h1⟩
        · have hem : s.toList.isEmpty = false := emp_f hb
          have hnil : ¬ s.data.toList = [] := fun h => hb (by rw [← size_l, h]; rfl)
          rw [if_neg hnil] at HR
          have cI := fun w => rWritten16 s.size (by omega) w
          have hxl := hex_len 3 s.size (by omega)
          obtain ⟨hx, hhx⟩ : ∃ hx : ByteArray, bs (hexDigits s.size) = hx := ⟨_, rfl⟩
          have hxs : hx.size ≤ 4 := by rw [← hhx, bs_size]; exact hxl
          have HU : Hid (((hx ++ ⟨#[13, 10]⟩) ++ s) ++ ⟨#[13, 10, 48, 13, 10, 13, 10]⟩ = bs R.1 ∧ R.2 = 0) := by
            show _ ∧ _
            rw [← HR.out]
            refine ⟨?_, rfl⟩
            rw [← hhx]
            exact ba_ext (by first | (simp only [append_toList, bs_list]; done) | (simp only [append_toList, bs_list]; simp))
          rw [hhx] at cI
          have CI := Lib.hid cI
          clear cI hnil hb hhx hxl
          go_wp2_with fail
          (with_reducible refine (CI.out _).mono ?_); rintro e w2 ⟨rfl, g2⟩
          obtain ⟨mm, rfl⟩ := g2
          have g2 := below_drewN (Below.refl w1.heap.size w1) mm
          generalize w1.drewN mm = w2 at g2 ⊢
          have h2 := h1.trans (g2.mono h1.size)
          clear q0 q1
          go_wp2_with fail
          go_ret2
          refine ⟨?_, h2⟩
          rw [← HU.out.1, HU.out.2]
          rfl
      · have dk : (K != 3) = true := by simp [hk]
        by_cases hg : (s.size : Int) = n
        · have d1 : ((s.size : Int) != n) = false := by simp [hg]
          have hres : R = (s.data.toList, 0) := by rw [← HR.out, if_neg (by simp [hg]), if_pos hk]
          subst hres
          clear hk hg
          go_wp2_with fail
          go_ret2
          exact ⟨rfl, h1⟩
        · have d1 : ((s.size : Int) != n) = true := by simp [hg]
          have hres : R = ([], 3) := by rw [← HR.out, if_pos ⟨hk, hg⟩]
          subst hres
          clear hk hg
          go_wp2_with fail
          go_ret2
          exact ⟨rfl, h1⟩
  · rw [bytes_e hE h0] at hR
    subst hR
    have HB := Lib.hid hb0
    have e0 : ((E : Int) != 0) = true := by rw [bne_iff_ne]; omega
    clear hb0 m0 hE
    go_enter Tryd.func47, Tryd.ntmps47
    go_wp2_with fail
    (with_reducible refine (CK.out _).mono ?_); rintro e w1 ⟨rfl, g1⟩
    have h1 := HB.out.trans (g1.mono HB.out.size)
    go_wp2_with fail
    go_ret2
    exact ⟨rfl, h1⟩
end

section
open Go.RowKit

/-- a list of names and values as fields -/
def pairL : List (List UInt8) → List Fld
  | [] => []
  | [_] => []
  | x :: y :: r => (x, y) :: pairL r
theorem pair_at : ∀ (xs : List (List UInt8)) (k : Nat) (h : k < (pairL xs).length), ∃ h1 : 2 * k + 1 < xs.length, (pairL xs)[k] = (xs[2 * k], xs[2 * k + 1])
  | [], k, h => by simp [pairL] at h
  | [_], k, h => by simp [pairL] at h
  | x :: y :: r, 0, h => ⟨by simp, rfl⟩
  | x :: y :: r, k + 1, h => by
    have h' : k < (pairL r).length := by simpa [pairL] using h
    obtain ⟨h1, e⟩ := pair_at r k h'
    refine ⟨by simp; omega, ?_⟩
    show (pairL r)[k] = _
    rw [e]
    have e1 : (x :: y :: r)[2 * (k + 1)]'(by simp; omega) = r[2 * k] := by simp [show 2 * (k + 1) = 2 * k + 1 + 1 by omega]
    have e2 : (x :: y :: r)[2 * (k + 1) + 1]'(by simp; omega) = r[2 * k + 1] := by simp [show 2 * (k + 1) + 1 = 2 * k + 1 + 1 + 1 by omega]
    rw [e1, e2]
theorem pair_len : ∀ xs : List (List UInt8), (pairL xs).length = xs.length / 2
  | [] => rfl
  | [_] => by simp [pairL]
  | x :: y :: r => by
    have := pair_len r
    simp only [pairL, List.length_cons, this]
    omega

set_option maxRecDepth 100000 in
set_option maxHeartbeats 8000000 in
theorem fields09 (A : Option Addr) (n c : Nat) (xs : List (List UInt8)) (w : World) (hr : Reads w w.heap.size 1 A n (strs xs)) (hn : n ≤ 1000) :
    Calls Tryd.prog 32 #[.slice A n c] w fun e w' => ∃ B d, e = .returned (.slice B (pairL xs).length d) ∧ (pairL xs).length ≤ d ∧ Reads w' w'.heap.size 2 B (pairL xs).length (fldsC (pairL xs)) ∧ Below w.heap.size w w' := by
  obtain rfl : n = xs.length := by simpa [strs] using hr.len
  have HR := Lib.hid hr
  have HP := Lib.hid (pair_at xs)
  have hpl := pair_len xs
  obtain ⟨PL, hPL⟩ : ∃ PL, pairL xs = PL := ⟨_, rfl⟩
  rw [hPL] at hpl ⊢
  have HPL := Lib.hid hPL
  clear hr hPL
  go_enter Tryd.func32, Tryd.ntmps32
  go_wp2_with fail
  go_loopw [3, 4] (fun o i wr => ∃ k j : Nat, i = .int .i64 (j : Int) ∧ j = 2 * k ∧ k ≤ PL.length ∧ Hid (wr.ownsRow w.heap.size 36 2 o (PL.take k).length (fldsC (PL.take k))) ∧ Hid (Below w.heap.size w wr)) (fun _ i _ => xs.length + 2 - (intOf i).toNat)
  case atStart => exact ⟨0, 0, rfl, rfl, by omega, World.ownsRow_nil _ _ _ _, Below.refl _ _⟩
  case round =>
    obtain ⟨k, j, rfl, hjk, hk, HO, hb⟩ := hrel
    rename World => W0
    have hw1 : IntKind.i64.wrap ((j : Int) + 1) = (j : Int) + 1 := by rw [IntKind.wrap_i64]; omega
    by_cases hlt : k < PL.length
    · have hlt' : k < (pairL xs).length := by rw [HPL.out]; exact hlt
      obtain ⟨h1, e1⟩ := HP.out k hlt'
      obtain ⟨x, hx⟩ : ∃ x, xs[2 * k] = x := ⟨_, rfl⟩
      obtain ⟨y, hy⟩ : ∃ y, xs[2 * k + 1] = y := ⟨_, rfl⟩
      have e2 : PL[k] = (x, y) := by
        have : PL[k] = (pairL xs)[k] := by congr 1; exact HPL.out.symm
        rw [this, e1, hx, hy]
      obtain ⟨b, o, rfl, hbl, q0⟩ := HR.out.text (2 * k) (by omega)
      obtain ⟨b', o', e', _, q1⟩ := HR.out.text (2 * k + 1) h1
      cases e'
      rw [hx, ← hjk] at q0
      rw [hy, ← hjk] at q1
      have c0 := (hb.out.cell (p := ⟨b, o + j, none⟩) hbl).trans q0
      have c1 := (hb.out.cell (p := ⟨b, o + (j + 1), none⟩) hbl).trans q1
      have htk : PL.take (k + 1) = PL.take k ++ [(x, y)] := by rw [List.take_succ_eq_append_getElem hlt, e2]
      have hgd : Below W0.heap.size W0 W0.drew := (Below.refl _ _).drew
      obtain ⟨v', w5, hrun, hown, hb5, _⟩ := app_fld (own_below HO.out hgd) hb.out.size (by rw [List.length_take]; omega) (x, y)
      have i0 : (0 : Int) ≤ (j : Int) := by omega
      have i1 : (j : Int) < (xs.length : Int) := by omega
      have i2 : (0 : Int) ≤ (j : Int) + 1 := by omega
      have i3 : (j : Int) + 1 < (xs.length : Int) := by omega
      have HO' : Hid (w5.ownsRow w.heap.size 36 2 v' (PL.take (k + 1)).length (fldsC (PL.take (k + 1)))) := by
        show w5.ownsRow _ _ _ _ _ _
        rw [htk]; exact hown
      have hb5' : Below w.heap.size W0.drew w5 := hb5
      have HB5 : Hid (Below w.heap.size w w5) := hide ((hb.out.drew).trans hb5')
      have z1 := (hb5'.cell (p := ⟨b, o + j, none⟩) hbl).trans c0
      have z2 := (hb5'.cell (p := ⟨b, o + (j + 1), none⟩) hbl).trans c1
      have HRUN := Lib.hid hrun
      have c0' : W0.drew.cell? ⟨b, o + j, none⟩ = some (.string (bs x)) := c0
      have c1' : W0.drew.cell? ⟨b, o + (j + 1), none⟩ = some (.string (bs y)) := c1
      have HJ := Lib.hid hjk
      clear q0 q1 hx hy e1 e2 hlt' htk hgd hrun hown hb5 hb5' hjk
      go_wp2_with fail
      go_region_held3 (fun w' => w'.cell? ⟨b, o + j, none⟩ = some (.string (bs x)) ∧ w'.cell? ⟨b, o + (j + 1), none⟩ = some (.string (bs y))) (go_keep) (first
        | (refine step_append_run HRUN.out (by rfl) _ _ (by rfl) (by rfl) (by rfl) (by rfl) ?_))
      go_wp2_with fail
      go_roundw
      case rel => exact ⟨k + 1, j + 2, by go_num, by have := HJ.out; omega, by omega, HO', HB5⟩
      case measure => simp [intOf]; omega
    · have hkl : k = PL.length := by omega
      subst hkl
      have hd : decide ((j : Int) + 1 < (xs.length : Int)) = false := by rw [decide_eq_false_iff_not]; omega
      have ho := HO.out
      rw [List.take_length] at ho
      obtain ⟨A', cap, rfl⟩ := own_slice ho
      have HO2 := Lib.hid ho
      clear ho
      go_wp2_with fail
      go_ret
      exact ⟨A', cap, rfl, own_capA HO2.out, Reads.of_own HO2.out, hb.out⟩
end

section
open Go.RowKit

theorem inFr (a b c d : Int) (w : World) : (Op.equalIn 10000 48 (.agg #[.int .i64 a, .int .i64 b]) (.agg #[.int .i64 c, .int .i64 d])).run Tryd.prog w = .ok (a == c && b == d) w := by
  have u1 := Tryd.underlying3
  have u2 := Tryd.isAgg3
  have z3 := Tryd.sizeOf3
  have f0 := Tryd.underlying48
  have f1 : Tryd.prog.underlying 48 = some (.struct (Tryd.prog.fieldsOf 48)) := by unfold Program.fieldsOf; rw [f0]
  rw [show (10000 : Nat) = 9999 + 1 from rfl, run_equalIn_struct _ _ _ _ _ f1 (by kernel_rfl)]
  unfold Program.fieldsOf
  rw [f0]
  go_simp
  by_cases h0 : a = c <;> by_cases h1 : b = d <;> simp [h0, h1]
theorem eqFr (a b c d : Int) (w : World) : (binOp .eql 48 (.agg #[.int .i64 a, .int .i64 b]) (.agg #[.int .i64 c, .int .i64 d])).run Tryd.prog w = .ok (.bool (a == c && b == d)) w := by
  rw [run_eql_struct, inFr]; rfl
theorem neFr (a b c d : Int) (w : World) : (binOp .neq 48 (.agg #[.int .i64 a, .int .i64 b]) (.agg #[.int .i64 c, .int .i64 d])).run Tryd.prog w = .ok (.bool (!(a == c && b == d))) w := by
  rw [run_neq_struct, inFr]; rfl
theorem pair_short (xs : List (List UInt8)) (h : ∀ x ∈ xs, x.length ≤ 500) : fldsS (pairL xs) := by
  intro f hf
  obtain ⟨k, hk, rfl⟩ := List.mem_iff_getElem.1 hf
  obtain ⟨h1, e⟩ := pair_at xs k hk
  rw [e]
  exact ⟨h _ (List.getElem_mem _), h _ (List.getElem_mem _)⟩

set_option maxRecDepth 100000 in
set_option maxHeartbeats 8000000 in
theorem of_hit (K n : Int) (A : Option Addr) (m c : Nat) (xs : List (List UInt8)) (w : World) (hr : Reads w w.heap.size 1 A m (strs xs)) (hm : m ≤ 1000) (hs : ∀ x ∈ xs, x.length ≤ 500) (t : Nat × Nat × Nat) (h : ofT (pairL xs) = t) (h1 : (t.1 : Int) = K) (h2 : (t.2.1 : Int) = n) (h3 : t.2.2 = 0) :
    Calls Tryd.prog 29 #[.int .i64 K, .int .i64 n, .slice A m c] w fun e w' => e = .returned (.bool true) ∧ Below w.heap.size w w' := by
  subst h1 h2
  have CF := Lib.hid (fields09 A m c xs w hr hm)
  have hml : m = xs.length := by simpa [strs] using hr.len
  have hpl := pair_len xs
  have CO := Lib.hid (fun B d w hr => pOf B (pairL xs).length d (pairL xs) w hr (by omega) (pair_short xs hs))
  unfold OfPost at CO
  rw [h] at CO
  obtain ⟨K, n, s⟩ := t
  simp only at h3 CO ⊢
  subst h3
  clear h hs hr hml hpl
  have hq := eqFr (K : Int) (n : Int) (K : Int) (n : Int)
  have hq2 : ((K : Int) == (K : Int) && (n : Int) == (n : Int)) = true := by simp
  rw [hq2] at hq
  clear hq2
  go_enter Tryd.func29, Tryd.ntmps29
  go_wp2_with fail
  (with_reducible refine (CF.out).mono ?_); rintro e w1 ⟨B, d, rfl, _, hr1, g1⟩
  have HR1 := Lib.hid hr1
  clear hr1
  go_wp2_with fail
  (with_reducible refine (CO.out _ _ _ HR1.out).mono ?_); rintro e w2 ⟨rfl, g2⟩
  have h2 := (g1.trans (g2.mono g1.size))
  have h3 := h2.alloc h2.size (.cells #[.int .i64 (K : Int), .int .i64 (n : Int)] 48)
  clear g1 g2 HR1
  go_wp2_with fail
  go_ret
  exact ⟨rfl, h3⟩
set_option maxRecDepth 100000 in
set_option maxHeartbeats 8000000 in
theorem status_hit (S : Int) (A : Option Addr) (m c : Nat) (xs : List (List UInt8)) (w : World) (hr : Reads w w.heap.size 1 A m (strs xs)) (hm : m ≤ 1000) (hs : ∀ x ∈ xs, x.length ≤ 500) (s : Nat) (h : ofT (pairL xs) = (0, 0, s)) (h1 : (s : Int) = S) :
    Calls Tryd.prog 30 #[.int .i64 S, .slice A m c] w fun e w' => e = .returned (.bool true) ∧ Below w.heap.size w w' := by
  subst h1
  have CF := Lib.hid (fields09 A m c xs w hr hm)
  have hml : m = xs.length := by simpa [strs] using hr.len
  have hpl := pair_len xs
  have CO : Hid (∀ B d w, Reads w w.heap.size 2 B (pairL xs).length (fldsC (pairL xs)) → Calls Tryd.prog 27 #[.slice B (pairL xs).length d] w fun e w' => e = .returned (.tuple #[.agg #[.int .i64 0, .int .i64 0], .int .i64 s]) ∧ Below w.heap.size w w') := by
    intro B d w hr
    have := pOf B (pairL xs).length d (pairL xs) w hr (by omega) (pair_short xs hs)
    unfold OfPost at this
    rw [h] at this
    exact this
  clear h hs hr hml hpl
  have hq := eqFr 0 0 0 0
  have hq2 : ((0 : Int) == 0 && (0 : Int) == 0) = true := by decide
  rw [hq2] at hq
  clear hq2
  have hs1 : ((s : Int) == (s : Int)) = true := by simp
  go_enter Tryd.func30, Tryd.ntmps30
  go_wp2_with fail
  (with_reducible refine (CF.out).mono ?_); rintro e w1 ⟨B, d, rfl, _, hr1, g1⟩
  have HR1 := Lib.hid hr1
  clear hr1
  go_wp2_with fail
  (with_reducible refine (CO.out _ _ _ HR1.out).mono ?_); rintro e w2 ⟨rfl, g2⟩
  have h2 := (g1.trans (g2.mono g1.size))
  have h3 := h2.alloc h2.size (.cells #[.int .i64 0, .int .i64 0] 48)
  clear g1 g2 HR1
  go_wp2_with fail
  go_ret
  exact ⟨rfl, h3⟩
set_option maxRecDepth 100000 in
set_option maxHeartbeats 8000000 in
theorem bytes_hit (K n : Int) (s want : ByteArray) (w : World) (htab : Tabs w) (hs : s.size ≤ 1000000) (h : bytesT K n s.data.toList = (want.data.toList, 0)) :
    Calls Tryd.prog 35 #[.agg #[.int .i64 K, .int .i64 n], .string s, .string want] w fun e w' => e = .returned (.bool true) ∧ Below w.heap.size w w' := by
  have CB := Lib.hid (fun w ht => pBytes K n s hs w ht)
  rw [h] at CB
  have hb0 : Below w.heap.size w (w.alloc (.cells #[.int .i64 K, .int .i64 n] 48)) := (Below.refl _ _).alloc (Nat.le_refl _) _
  have HT := Lib.hid (htab.below hb0)
  have HB := Lib.hid hb0
  have ew : bs want.data.toList = want := rfl
  simp only at CB
  rw [ew] at CB
  have hq : (want.toList == want.toList) = true := by simp
  clear h hb0 ew
  go_enter Tryd.func35, Tryd.ntmps35
  go_wp2_with fail
  (with_reducible refine (CB.out _ HT.out).mono ?_); rintro e w1 ⟨rfl, g1⟩
  have h1 := HB.out.trans (g1.mono HB.out.size)
  clear g1
  go_wp2_with fail
  go_ret
  exact ⟨rfl, h1⟩

theorem aw1 : ofT (pairL []) = (1, 0, 0) := by decide +kernel
theorem aw2 : ofT (pairL [[99, 111, 110, 116, 101, 110, 116, 45, 108, 101, 110, 103, 116, 104], [48, 53, 44, 32, 53]]) = (2, 5, 0) := by decide +kernel
theorem aw3 : ofT (pairL [[84, 114, 97, 110, 115, 102, 101, 114, 45, 69, 110, 99, 111, 100, 105, 110, 103], [67, 104, 117, 110, 107, 101, 100]]) = (3, 0, 0) := by decide +kernel
theorem aw4 : ofT (pairL [[67, 111, 110, 116, 101, 110, 116, 45, 76, 101, 110, 103, 116, 104], [53, 44, 32, 54]]) = (0, 0, 400) := by decide +kernel
theorem aw5 : ofT (pairL [[67, 111, 110, 116, 101, 110, 116, 45, 76, 101, 110, 103, 116, 104], [50, 48, 52, 57]]) = (0, 0, 413) := by decide +kernel
theorem aw6 : bytesT 3 0 (⟨#[97, 98, 99]⟩ : ByteArray).data.toList = ((⟨#[51, 13, 10, 97, 98, 99, 13, 10, 48, 13, 10, 13, 10]⟩ : ByteArray).data.toList, 0) := by
  have e : hexDigits 3 = [51] := hexDigits_small (by omega)
  rw [bytes_0 (by decide), if_neg (by decide), if_neg (by decide), if_neg (by decide), if_neg (by decide)]
  show (hexDigits 3 ++ _ ++ _ ++ _ ++ _, 0) = _
  rw [e]
  rfl

set_option maxRecDepth 100000 in
set_option maxHeartbeats 16000000 in
theorem awake09 (w : World) (htab : Tabs w) : Calls Tryd.prog 38 #[] w fun e w' => e = .returned (.bool true) ∧ Below w.heap.size w w' := by
  have TB := Lib.hid (fun X (h : Below w.heap.size w X) => htab.below h)
  clear htab
  go_enter Tryd.func38, Tryd.ntmps38
  go_wp2_with fail
  (with_reducible refine (of_hit 1 0 none 0 0 [] w Reads.none_ (by omega) (by decide) _ aw1 rfl rfl rfl).mono ?_); rintro e w1 ⟨rfl, g⟩
  have h1 := g
  clear g
  go_wp2_with fail
  have HS := Lib.hid (reads_new w1 9 [[99, 111, 110, 116, 101, 110, 116, 45, 108, 101, 110, 103, 116, 104], [48, 53, 44, 32, 53]] #[.string ⟨#[99, 111, 110, 116, 101, 110, 116, 45, 108, 101, 110, 103, 116, 104]⟩, .string ⟨#[48, 53, 44, 32, 53]⟩] rfl)
  have g := (Below.refl w1.heap.size w1).alloc (Nat.le_refl _) (.cells #[.string ⟨#[99, 111, 110, 116, 101, 110, 116, 45, 108, 101, 110, 103, 116, 104]⟩, .string ⟨#[48, 53, 44, 32, 53]⟩] 9)
  have h2 := h1.trans (g.mono h1.size)
  generalize hgw : w1.alloc (.cells #[.string ⟨#[99, 111, 110, 116, 101, 110, 116, 45, 108, 101, 110, 103, 116, 104]⟩, .string ⟨#[48, 53, 44, 32, 53]⟩] 9) = w2 at *
  clear hgw g h1
  (with_reducible refine (of_hit 2 5 _ 2 2 _ _ HS.out (by omega) (by decide) _ aw2 rfl rfl rfl).mono ?_); rintro e w3 ⟨rfl, g⟩
  have h3 := h2.trans (g.mono h2.size)
  clear g h2
  clear HS
  go_wp2_with fail
  have HS := Lib.hid (reads_new w3 9 [[84, 114, 97, 110, 115, 102, 101, 114, 45, 69, 110, 99, 111, 100, 105, 110, 103], [67, 104, 117, 110, 107, 101, 100]] #[.string ⟨#[84, 114, 97, 110, 115, 102, 101, 114, 45, 69, 110, 99, 111, 100, 105, 110, 103]⟩, .string ⟨#[67, 104, 117, 110, 107, 101, 100]⟩] rfl)
  have g := (Below.refl w3.heap.size w3).alloc (Nat.le_refl _) (.cells #[.string ⟨#[84, 114, 97, 110, 115, 102, 101, 114, 45, 69, 110, 99, 111, 100, 105, 110, 103]⟩, .string ⟨#[67, 104, 117, 110, 107, 101, 100]⟩] 9)
  have h4 := h3.trans (g.mono h3.size)
  generalize hgw : w3.alloc (.cells #[.string ⟨#[84, 114, 97, 110, 115, 102, 101, 114, 45, 69, 110, 99, 111, 100, 105, 110, 103]⟩, .string ⟨#[67, 104, 117, 110, 107, 101, 100]⟩] 9) = w4 at *
  clear hgw g h3
  (with_reducible refine (of_hit 3 0 _ 2 2 _ _ HS.out (by omega) (by decide) _ aw3 rfl rfl rfl).mono ?_); rintro e w5 ⟨rfl, g⟩
  have h5 := h4.trans (g.mono h4.size)
  clear g h4
  clear HS
  go_wp2_with fail
  have HS := Lib.hid (reads_new w5 9 [[67, 111, 110, 116, 101, 110, 116, 45, 76, 101, 110, 103, 116, 104], [53, 44, 32, 54]] #[.string ⟨#[67, 111, 110, 116, 101, 110, 116, 45, 76, 101, 110, 103, 116, 104]⟩, .string ⟨#[53, 44, 32, 54]⟩] rfl)
  have g := (Below.refl w5.heap.size w5).alloc (Nat.le_refl _) (.cells #[.string ⟨#[67, 111, 110, 116, 101, 110, 116, 45, 76, 101, 110, 103, 116, 104]⟩, .string ⟨#[53, 44, 32, 54]⟩] 9)
  have h6 := h5.trans (g.mono h5.size)
  generalize hgw : w5.alloc (.cells #[.string ⟨#[67, 111, 110, 116, 101, 110, 116, 45, 76, 101, 110, 103, 116, 104]⟩, .string ⟨#[53, 44, 32, 54]⟩] 9) = w6 at *
  clear hgw g h5
  (with_reducible refine (status_hit 400 _ 2 2 _ _ HS.out (by omega) (by decide) 400 aw4 rfl).mono ?_); rintro e w7 ⟨rfl, g⟩
  have h7 := h6.trans (g.mono h6.size)
  clear g h6
  clear HS
  go_wp2_with fail
  have HS := Lib.hid (reads_new w7 9 [[67, 111, 110, 116, 101, 110, 116, 45, 76, 101, 110, 103, 116, 104], [50, 48, 52, 57]] #[.string ⟨#[67, 111, 110, 116, 101, 110, 116, 45, 76, 101, 110, 103, 116, 104]⟩, .string ⟨#[50, 48, 52, 57]⟩] rfl)
  have g := (Below.refl w7.heap.size w7).alloc (Nat.le_refl _) (.cells #[.string ⟨#[67, 111, 110, 116, 101, 110, 116, 45, 76, 101, 110, 103, 116, 104]⟩, .string ⟨#[50, 48, 52, 57]⟩] 9)
  have h8 := h7.trans (g.mono h7.size)
  generalize hgw : w7.alloc (.cells #[.string ⟨#[67, 111, 110, 116, 101, 110, 116, 45, 76, 101, 110, 103, 116, 104]⟩, .string ⟨#[50, 48, 52, 57]⟩] 9) = w8 at *
  clear hgw g h7
  (with_reducible refine (status_hit 413 _ 2 2 _ _ HS.out (by omega) (by decide) 413 aw5 rfl).mono ?_); rintro e w9 ⟨rfl, g⟩
  have h9 := h8.trans (g.mono h8.size)
  clear g h8
  clear HS
  have CB := Lib.hid (bytes_hit 3 0 ⟨#[97, 98, 99]⟩ ⟨#[51, 13, 10, 97, 98, 99, 13, 10, 48, 13, 10, 13, 10]⟩ w9 (TB.out _ h9) (by decide) aw6)
  go_wp2_with fail
  (with_reducible refine (CB.out).mono ?_); rintro e w10 ⟨rfl, g⟩
  have h10 := h9.trans (g.mono h9.size)
  clear g h9
  go_wp2_with fail
  go_ret
  exact ⟨rfl, h10⟩
end
end Go.Proofs.YtpdohlnobbimaaaDoor
