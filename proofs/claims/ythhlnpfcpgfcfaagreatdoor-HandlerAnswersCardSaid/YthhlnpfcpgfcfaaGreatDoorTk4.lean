/-
  The contracts of strings.Cut at a separator of one byte, and of package token's Cut and Colon.
-/
import Derived.Test.YthhlnpfcpgfcfaaGreatDoorTk3
import Derived.BigQuiet
namespace Go.Proofs.YthhlnpfcpgfcfaaGreatDoor
open Go.RowKit

/-- what stands before the first c, what behind it, is there one -/
def cutB (c : UInt8) (l : List UInt8) : List UInt8 × List UInt8 × Bool := (l.takeWhile (· != c), (l.dropWhile (· != c)).tail, !(l.dropWhile (· != c)).isEmpty)
theorem idx_cases (c : UInt8) (l : List UInt8) : (Lib.indexByte l c = -1 ∧ cutB c l = (l, [], false)) ∨ ∃ a r, l = a ++ c :: r ∧ Lib.indexByte l c = (a.length : Int) ∧ cutB c l = (a, r, true) := by
  induction l with
  | nil => exact .inl ⟨rfl, rfl⟩
  | cons b l ih =>
    by_cases h : b = c
    · subst h
      exact .inr ⟨[], l, rfl, by simp [Lib.indexByte], by simp [cutB]⟩
    · have hbc : (b == c) = false := by simpa using h
      have e : cutB c (b :: l) = (b :: (cutB c l).1, (cutB c l).2.1, (cutB c l).2.2) := by simp [cutB, h]
      rcases ih with ⟨h1, h2⟩ | ⟨a, r, h1, h2, h3⟩
      · refine .inl ⟨by simp [Lib.indexByte, hbc, h1], ?_⟩
        rw [e, h2]
      · refine .inr ⟨b :: a, r, by rw [h1]; rfl, ?_, ?_⟩
        · simp only [Lib.indexByte, hbc, h2, Bool.false_eq_true, if_false]
          have : ((a.length : Int) == -1) = false := by rw [beq_eq_false_iff_ne]; omega
          rw [this]; simp
        · rw [e, h3]
theorem extract_list (s : ByteArray) (i j : Nat) : (s.extract i j).data.toList = (s.data.toList.take j).drop i := by
  rw [ByteArray.data_extract, Array.toList_extract, List.extract_eq_take_drop, List.take_drop]
  by_cases h : i ≤ j
  · rw [show i + (j - i) = j by omega]
  · rw [List.drop_eq_nil_of_le (by simp; omega), List.drop_eq_nil_of_le (by simp; omega)]
def bs (l : List UInt8) : ByteArray := ⟨l.toArray⟩

theorem SCut_any (s : ByteArray) (c : UInt8) (w : World) (hs : s.size ≤ 1000000) :
    Calls Tryz.prog 112 #[.string s, .string ⟨#[c]⟩] w fun e w' => e = .returned (.tuple #[.string (bs (cutB c s.data.toList).1), .string (bs (cutB c s.data.toList).2.1), .bool (cutB c s.data.toList).2.2]) ∧ ∃ m, w' = w.drewN m := by
  have cI := Tryz.stringslite_Index_one s c
  rcases idx_cases c s.data.toList with ⟨h1, h2⟩ | ⟨a, r, h1, h2, h3⟩
  · rw [h2]
    rw [h1] at cI
    have CI := Lib.hid cI
    clear cI h1 h2
    go_enter Tryz.func112, Tryz.ntmps112
    go_wp2_with fail
    (with_reducible refine (CI.out _).mono ?_); rintro e w1 ⟨rfl, rfl⟩
    go_wp2_with fail
    go_ret3
    exact ⟨rfl, 0, rfl⟩
  · rw [h3]
    rw [h2] at cI
    have CI := Lib.hid cI
    have hl : a.length + 1 + r.length = s.size := by rw [← size_l, h1]; simp; omega
    have e1 : s.extract 0 a.length = bs a := ba_ext (by rw [extract_list, h1]; simp [bs])
    have e2 : s.extract (a.length + 1) s.size = bs r := ba_ext (by
      rw [extract_list, List.take_of_length_le (by rw [size_l]; omega), h1, show a ++ c :: r = (a ++ [c]) ++ r by simp, show a.length + 1 = (a ++ [c]).length by simp, List.drop_left]; rfl)
    clear cI h1 h2 h3
    go_enter Tryz.func112, Tryz.ntmps112
    go_wp2_with fail
    (with_reducible refine (CI.out _).mono ?_); rintro e w1 ⟨rfl, rfl⟩
    go_wp2_with fail
    go_quiet (fail)
    go_wp2_with fail
    go_ret3
    exact ⟨rfl, _, rfl⟩
theorem StrCut_any (s : ByteArray) (c : UInt8) (w : World) (hs : s.size ≤ 1000000) :
    Calls Tryz.prog 86 #[.string s, .string ⟨#[c]⟩] w fun e w' => e = .returned (.tuple #[.string (bs (cutB c s.data.toList).1), .string (bs (cutB c s.data.toList).2.1), .bool (cutB c s.data.toList).2.2]) ∧ Below w.heap.size w w' := by
  obtain ⟨X, hX⟩ : ∃ X, cutB c s.data.toList = X := ⟨_, rfl⟩
  have cC := fun w => SCut_any s c w hs
  rw [hX] at cC ⊢
  have CC := Lib.hid cC
  clear cC hX
  go_enter Tryz.func86, Tryz.ntmps86
  go_wp2_with fail
  (with_reducible refine (CC.out _).mono ?_); rintro e w1 ⟨rfl, m, rfl⟩
  go_wp2_with fail
  go_ret3
  exact ⟨rfl, below_drewN (Below.refl _ _) m⟩

/-- the token with which a text begins, what is behind it, or the error -/
def tokB (b : UInt8) : Bool := tokP b.toNat
def cutT (l : List UInt8) : List UInt8 × List UInt8 × Nat := if l.takeWhile tokB = [] then ([], [], 6) else (l.takeWhile tokB, l.dropWhile tokB, 0)
theorem takeWhile_of (p : UInt8 → Bool) (l : List UInt8) (k : Nat) (hk : k ≤ l.length) (h : ∀ b ∈ l.take k, p b = true) (hn : ∀ b, l[k]? = some b → p b = false) : l.takeWhile p = l.take k ∧ l.dropWhile p = l.drop k := by
  induction l generalizing k with
  | nil => simp
  | cons a l ih =>
    cases k with
    | zero => have := hn a rfl; simp [this]
    | succ k =>
      have ha : p a = true := h a (by simp)
      obtain ⟨h1, h2⟩ := ih k (by simpa using hk) (fun b hb => h b (by simp [hb])) (fun b hb => hn b (by simpa using hb))
      simp [ha, h1, h2]

end Go.Proofs.YthhlnpfcpgfcfaaGreatDoor
