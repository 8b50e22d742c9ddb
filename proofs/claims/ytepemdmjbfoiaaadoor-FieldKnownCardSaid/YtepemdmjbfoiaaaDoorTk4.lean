/-
  The contracts of strings.Cut at a separator of one byte, and of package token's Cut and Colon.
-/
import Derived.Test.YtepemdmjbfoiaaaDoorTk3
import Derived.BigQuiet
namespace Go.Proofs.YtepemdmjbfoiaaaDoor
open Go.RowKit

/-- what stands before the first c, what behind it, is there one -/
def cutB (c : UInt8) (l : List UInt8) : List UInt8 × List UInt8 × Bool := (l.takeWhile (· != c), (l.dropWhile (· != c)).tail, !(l.dropWhile (· != c)).isEmpty)
theorem idx_cases (c : UInt8) (l : List UInt8) : (Lib.indexByte l c = -1 ∧ cutB c l = (l, [], false)) ∨ ∃ a r, l = a ++ c :: r ∧ Lib.indexByte l c = (a.length : Int) ∧ cutB c l = (a, r, true) := by
  induction l with
  | nil => exact .inl ⟨rfl, rfl⟩
  | cons b l ih =>
    by_cases h : b = c
    · subst h
      exact .inr ⟨[], l, rfl, by simp [Lib.indexByte], by simp [cutB]⟩
    · have hbc : (b == c) = false := by simpa using h
      have e : cutB c (b :: l) = (b :: (cutB c l).1, (cutB c l).2.1, (cutB c l).2.2) := by simp [cutB, h]
      rcases ih with ⟨h1, h2⟩ | ⟨a, r, h1, h2, h3⟩
      · refine .inl ⟨by simp [Lib.indexByte, hbc, h1], ?_⟩
        rw [e, h2]
      · refine .inr ⟨b :: a, r, by rw [h1]; rfl, ?_, ?_⟩
        · simp only [Lib.indexByte, hbc, h2, Bool.false_eq_true, if_false]
          have : ((a.length : Int) == -1) = false := by rw [beq_eq_false_iff_ne]; omega
          rw [this]; simp
        · rw [e, h3]
theorem extract_list (s : ByteArray) (i j : Nat) : (s.extract i j).data.toList = (s.data.toList.take j).drop i := by
  rw [ByteArray.data_extract, Array.toList_extract, List.extract_eq_take_drop, List.take_drop]
  by_cases h : i ≤ j
  · rw [show i + (j - i) = j by omega]
  · rw [List.drop_eq_nil_of_le (by simp; omega), List.drop_eq_nil_of_le (by simp; omega)]
def bs (l : List UInt8) : ByteArray := ⟨l.toArray⟩

theorem SCut_any (s : ByteArray) (c : UInt8) (w : World) (hs : s.size ≤ 1000000) :
    Calls Tryd.prog 147 #[.string s, .string ⟨#[c]⟩] w fun e w' => e = .returned (.tuple #[.string (bs (cutB c s.data.toList).1), .string (bs (cutB c s.data.toList).2.1), .bool (cutB c s.data.toList).2.2]) ∧ ∃ m, w' = w.drewN m := by
  have cI := Tryd.stringslite_Index_one s c
  rcases idx_cases c s.data.toList with ⟨h1, h2⟩ | ⟨a, r, h1, h2, h3⟩
  · rw [h2]
    rw [h1] at cI
    have CI := Lib.hid cI
    clear cI h1 h2
    go_enter Tryd.func147, Tryd.ntmps147
    go_wp2_with fail
    (with_reducible refine (CI.out _).mono ?_); rintro e w1 ⟨rfl, rfl⟩
    go_wp2_with fail
    go_ret3
    exact ⟨rfl, 0, rfl⟩
  · rw [h3]
    rw [h2] at cI
    have CI := Lib.hid cI
    have hl : a.length + 1 + r.length = s.size := by rw [← size_l, h1]; simp; omega
    have e1 : s.extract 0 a.length = bs a := ba_ext (by rw [extract_list, h1]; simp [bs])
    have e2 : s.extract (a.length + 1) s.size = bs r := ba_ext (by
      rw [extract_list, List.take_of_length_le (by rw [size_l]; omega), h1, show a ++ c :: r = (a ++ [c]) ++ r by simp, show a.length + 1 = (a ++ [c]).length by simp, List.drop_left]; rfl)
    clear cI h1 h2 h3
    go_enter Tryd.func147, Tryd.ntmps147
    go_wp2_with fail
    (with_reducible refine (CI.out _).mono ?_); rintro e w1 ⟨rfl, rfl⟩
    go_wp2_with fail
    go_quiet (fail)
    go_wp2_with fail
    go_ret3
    exact ⟨rfl, _, rfl⟩
theorem StrCut_any (s : ByteArray) (c : UInt8) (w : World) (hs : s.size ≤ 1000000) :
    Calls Tryd.prog 109 #[.string s, .string ⟨#[c]⟩] w fun e w' => e = .returned (.tuple #[.string (bs (cutB c s.data.toList).1), .string (bs (cutB c s.data.toList).2.1), .bool (cutB c s.data.toList).2.2]) ∧ Below w.heap.size w w' := by
  obtain ⟨X, hX⟩ : ∃ X, cutB c s.data.toList = X := ⟨_, rfl⟩
  have cC := fun w => SCut_any s c w hs
  rw [hX] at cC ⊢
  have CC := Lib.hid cC
  clear cC hX
  go_enter Tryd.func109, Tryd.ntmps109
  go_wp2_with fail
  (with_reducible refine (CC.out _).mono ?_); rintro e w1 ⟨rfl, m, rfl⟩
  go_wp2_with fail
  go_ret3
  exact ⟨rfl, below_drewN (Below.refl _ _) m⟩

/-- the token with which a text begins, what is behind it, or the error -/
def tokB (b : UInt8) : Bool := tokP b.toNat
def cutT (l : List UInt8) : List UInt8 × List UInt8 × Nat := if l.takeWhile tokB = [] then ([], [], 6) else (l.takeWhile tokB, l.dropWhile tokB, 0)
theorem takeWhile_of (p : UInt8 → Bool) (l : List UInt8) (k : Nat) (hk : k ≤ l.length) (h : ∀ b ∈ l.take k, p b = true) (hn : ∀ b, l[k]? = some b → p b = false) : l.takeWhile p = l.take k ∧ l.dropWhile p = l.drop k := by
  induction l generalizing k with
  | nil => simp
  | cons a l ih =>
    cases k with
    | zero => have := hn a rfl; simp [this]
    | succ k =>
      have ha : p a = true := h a (by simp)
      obtain ⟨h1, h2⟩ := ih k (by simpa using hk) (fun b hb => h b (by simp [hb])) (fun b hb => hn b (by simpa using hb))
      simp [ha, h1, h2]

set_option maxRecDepth 100000 in
set_option maxHeartbeats 4000000 in
theorem TCut_any (s : ByteArray) (w : World) (hs : s.size ≤ 1000000) :
    Calls Tryd.prog 32 #[.string s] w fun e w' => e = .returned (.tuple #[.string (bs (cutT s.data.toList).1), .string (bs (cutT s.data.toList).2.1), .int .i64 (cutT s.data.toList).2.2]) ∧ Below w.heap.size w w' := by
  have CC := Lib.hid chars_any
  obtain ⟨X, hX⟩ : ∃ X, cutT s.data.toList = X := ⟨_, rfl⟩
  rw [hX]
  have HX := Lib.hid hX
  clear hX
  go_enter Tryd.func32, Tryd.ntmps32
  go_wp2_with fail
  (with_reducible refine (CC.out _).mono ?_); rintro e w1 ⟨rfl, hb1⟩
  unfold setV setW
  go_wp2_with fail
  go_loopw [6] (fun n wr => ∃ k : Nat, n = .int .i64 k ∧ k ≤ s.size ∧ Hid (∀ b ∈ s.data.toList.take k, tokB b = true) ∧ Hid (Blk wr w1.heap.size 107 (setW tokP)) ∧ Below w.heap.size w wr) (fun n _ => s.size - (intOf n).toNat)
  case atStart => exact ⟨0, rfl, by omega, hide (by simp), hide (Blk.new _ _ _), hb1.alloc hb1.size _⟩
  case round =>
    obtain ⟨k, rfl, hk, HT, HS, hb⟩ := hrel
    rename World => W0
    obtain ⟨q0, q1, q2, q3⟩ := blk_setW HS.out
    by_cases hlt : k < s.size
    · have hslt := HS.out.lt
      have cH : Calls Tryd.prog 105 #[.agg #[.int .u64 (word tokP 0), .int .u64 (word tokP 1), .int .u64 (word tokP 2), .int .u64 (word tokP 3)], .int .u8 s[k].toNat] W0.drew fun e w' => e = .returned (.bool (tokB s[k])) ∧ Below W0.heap.size W0 w' ∧
          w'.cell? ⟨w1.heap.size, 0, none⟩ = some (.int .u64 (word tokP 0)) ∧ w'.cell? ⟨w1.heap.size, 1, none⟩ = some (.int .u64 (word tokP 1)) ∧ w'.cell? ⟨w1.heap.size, 2, none⟩ = some (.int .u64 (word tokP 2)) ∧ w'.cell? ⟨w1.heap.size, 3, none⟩ = some (.int .u64 (word tokP 3)) := by
        refine Calls.mono (Has_any tokP s[k] W0.drew) ?_
        intro e w' ⟨he, hb'⟩
        exact ⟨he, (Below.refl _ W0).drew.trans hb', blk_setW (HS.out.drew.below hb' hslt)⟩
      have CH := Lib.hid cH
      clear cH
      go_wp2_with fail
      go_region_held3 (fun w' => (w'.cell? ⟨w1.heap.size, 0, none⟩ = some (.int .u64 (word tokP 0)) ∧ w'.cell? ⟨w1.heap.size, 1, none⟩ = some (.int .u64 (word tokP 1)) ∧ w'.cell? ⟨w1.heap.size, 2, none⟩ = some (.int .u64 (word tokP 2)) ∧ w'.cell? ⟨w1.heap.size, 3, none⟩ = some (.int .u64 (word tokP 3)))) (go_keep)
        (first | (go_at_call 105; (with_reducible refine (CH.out).mono ?_); rintro r w2 ⟨rfl, hb2, j0, j1, j2, j3⟩))
      have hb2' := hb.trans (hb2.mono hb.size)
      rcases Bool.eq_false_or_eq_true (tokB s[k]) with ht | ht
      · rw [ht]
        go_wp2_with fail
        go_roundw
        case rel =>
          refine ⟨k + 1, by go_num, by omega, hide ?_, hide (HS.out.below hb2 hslt), hb2'⟩
          have hkl : k < s.data.toList.length := by rw [size_l]; omega
          rw [List.take_succ_eq_append_getElem hkl]
          intro b hb
          rcases List.mem_append.1 hb with hb | hb
          · exact HT.out b hb
          · rw [List.mem_singleton.1 hb]; exact ht
        case measure => simp [intOf]; omega
      · rw [ht]
        have hstop : ∀ b, s.data.toList[k]? = some b → tokB b = false := fun b hb => by
          rw [List.getElem?_eq_getElem (by rw [size_l]; omega)] at hb
          injection hb with hb
          rw [← hb]; exact ht
        obtain ⟨ht1, ht2⟩ := takeWhile_of tokB s.data.toList k (by rw [size_l]; omega) HT.out hstop
        have hX := HX.out
        unfold cutT at hX
        rw [ht1, ht2] at hX
        by_cases hk0 : k = 0
        · subst hk0
          rw [List.take_zero, if_pos rfl] at hX
          subst hX
          go_wp2_with fail
          go_ret3
          exact ⟨rfl, hb2'⟩
        · rw [if_neg (by intro hc; have := congrArg List.length hc; rw [List.length_take, size_l, List.length_nil] at this; omega)] at hX
          subst hX
          have e1 : s.extract 0 k = bs (s.data.toList.take k) := ba_ext (by rw [extract_list]; simp [bs])
          have e2 : s.extract k s.size = bs (s.data.toList.drop k) := ba_ext (by rw [extract_list, List.take_of_length_le (by rw [size_l]; omega)]; rfl)
          have hk0' : ((k : Int) == 0) = false := by rw [beq_eq_false_iff_ne]; omega
          go_wp2_with fail
          go_quiet (fail)
          go_wp2_with fail
          go_ret3
          exact ⟨rfl, below_drewN (hb2') _⟩
    · have hkl : k = s.size := by omega
      have hd : decide ((k : Int) < (s.size : Int)) = false := by simp; omega
      have hstop : ∀ b, s.data.toList[k]? = some b → tokB b = false := fun b hb => by
        rw [List.getElem?_eq_none (by rw [size_l]; omega)] at hb; simp at hb
      go_wp2_with fail
      go_quiet (fail)
      have hb3 := below_drewN hb nq
      obtain ⟨ht1, ht2⟩ := takeWhile_of tokB s.data.toList k (by rw [size_l]; omega) HT.out hstop
      have hX := HX.out
      unfold cutT at hX
      rw [ht1, ht2] at hX
      by_cases hk0 : k = 0
      · subst hk0
        rw [List.take_zero, if_pos rfl] at hX
        subst hX
        go_wp2_with fail
        go_ret3
        exact ⟨rfl, hb3⟩
      · rw [if_neg (by intro hc; have := congrArg List.length hc; rw [List.length_take, size_l, List.length_nil] at this; omega)] at hX
        subst hX
        have e1 : s.extract 0 k = bs (s.data.toList.take k) := ba_ext (by rw [extract_list]; simp [bs])
        have e2 : s.extract k s.size = bs (s.data.toList.drop k) := ba_ext (by rw [extract_list, List.take_of_length_le (by rw [size_l]; omega)]; rfl)
        have hk0' : ((k : Int) == 0) = false := by rw [beq_eq_false_iff_ne]; omega
        go_wp2_with fail
        go_quiet (fail)
        go_wp2_with fail
        go_ret3
        have g1 : bs (s.data.toList.take s.size) = s := ba_ext (by rw [List.take_of_length_le (by rw [size_l]; omega)]; rfl)
        have g2 : bs (s.data.toList.drop s.size) = ByteArray.empty := ba_ext (by rw [List.drop_eq_nil_of_le (by rw [size_l]; omega)]; rfl)
        have g3 : Ending.returned (.tuple #[.string s, .string ByteArray.empty, .int .i64 0]) = Ending.returned (.tuple #[.string (bs (s.data.toList.take s.size)), .string (bs (s.data.toList.drop s.size)), .int .i64 0]) := by rw [g1, g2]
        first | exact ⟨g3, below_drewN hb3 _⟩ | exact ⟨g3, below_drewN hb _⟩
end Go.Proofs.YtepemdmjbfoiaaaDoor
