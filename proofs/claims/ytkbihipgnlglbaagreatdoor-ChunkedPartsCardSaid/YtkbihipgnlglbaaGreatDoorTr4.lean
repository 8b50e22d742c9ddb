/-
  The reference of tokens (waypostref05): Cut.
-/
import Derived.Test.YtkbihipgnlglbaaGreatDoorTr3
namespace Go.Proofs.YtkbihipgnlglbaaGreatDoor
open Go.RowKit

set_option maxRecDepth 100000 in
set_option maxHeartbeats 4000000 in
theorem rCut (s : ByteArray) (w : World) (hs : s.size ≤ 1000000) :
    Calls Tryz.prog 79 #[.string s] w fun e w' => e = .returned (.tuple #[.string (bs (cutT s.data.toList).1), .string (bs (cutT s.data.toList).2.1), .int .i64 (cutT s.data.toList).2.2]) ∧ ∃ m, w' = w.drewN m := by
  obtain ⟨X, hX⟩ : ∃ X, cutT s.data.toList = X := ⟨_, rfl⟩
  rw [hX]
  have HX := Lib.hid hX
  have CO := Lib.hid rof
  clear hX
  go_enter Tryz.func79, Tryz.ntmps79
  go_wp2_with fail
  go_loop [5] (fun i => ∃ k : Nat, i = .int .i64 k ∧ k ≤ s.size ∧ Hid (∀ b ∈ s.data.toList.take k, tokB b = true)) (fun i => s.size - (intOf i).toNat)
  case atStart => exact ⟨0, rfl, by omega, hide (by simp)⟩
  case round =>
    obtain ⟨k, rfl, hk, HT⟩ := hrel
    by_cases hlt : k < s.size
    · go_wp2_with fail
      (with_reducible refine (CO.out _ _).mono ?_); rintro e w1 ⟨rfl, rfl⟩
      rcases Bool.eq_false_or_eq_true (tokB s[k]) with ht | ht
      · rw [ht]
        go_wp2_with fail
        go_round
        case rel =>
          refine ⟨k + 1, by go_num, by omega, hide ?_⟩
          have hkl : k < s.data.toList.length := by rw [size_l]; omega
          rw [List.take_succ_eq_append_getElem hkl]
          intro b hb
          rcases List.mem_append.1 hb with hb | hb
          · exact HT.out b hb
          · rw [List.mem_singleton.1 hb]; exact ht
        case measure => simp [intOf]; omega
      · rw [ht]
        have hstop : ∀ b, s.data.toList[k]? = some b → tokB b = false := fun b hb => by
          rw [List.getElem?_eq_getElem (by rw [size_l]; omega)] at hb
          injection hb with hb
          rw [← hb]; exact ht
        obtain ⟨ht1, ht2⟩ := takeWhile_of tokB s.data.toList k (by rw [size_l]; omega) HT.out hstop
        have hX := HX.out
        unfold cutT at hX
        rw [ht1, ht2] at hX
        by_cases hk0 : k = 0
        · subst hk0
          rw [List.take_zero, if_pos rfl] at hX
          subst hX
          go_wp2_with fail
          go_ret3
          exact ⟨rfl, 0, rfl⟩
        · rw [if_neg (by intro hc; have := congrArg List.length hc; rw [List.length_take, size_l, List.length_nil] at this; omega)] at hX
          subst hX
          have e1 : s.extract 0 k = bs (s.data.toList.take k) := ba_ext (by rw [extract_list]; simp [bs])
          have e2 : s.extract k s.size = bs (s.data.toList.drop k) := ba_ext (by rw [extract_list, List.take_of_length_le (by rw [size_l]; omega)]; rfl)
          have hk0' : ((k : Int) == 0) = false := by rw [beq_eq_false_iff_ne]; omega
          go_wp2_with fail
          go_quiet (fail)
          go_wp2_with fail
          go_ret3
          exact ⟨rfl, _, rfl⟩
    · have hkl : k = s.size := by omega
      have hd : decide ((k : Int) < (s.size : Int)) = false := by simp; omega
      have hstop : ∀ b, s.data.toList[k]? = some b → tokB b = false := fun b hb => by
        rw [List.getElem?_eq_none (by rw [size_l]; omega)] at hb; simp at hb
      obtain ⟨ht1, ht2⟩ := takeWhile_of tokB s.data.toList k (by rw [size_l]; omega) HT.out hstop
      have hX := HX.out
      unfold cutT at hX
      rw [ht1, ht2] at hX
      by_cases hk0 : k = 0
      · subst hk0
        rw [List.take_zero, if_pos rfl] at hX
        subst hX
        go_wp2_with fail
        go_ret3
        exact ⟨rfl, 0, rfl⟩
      · rw [if_neg (by intro hc; have := congrArg List.length hc; rw [List.length_take, size_l, List.length_nil] at this; omega)] at hX
        subst hX
        have e1 : s.extract 0 k = bs (s.data.toList.take k) := ba_ext (by rw [extract_list]; simp [bs])
        have e2 : s.extract k s.size = bs (s.data.toList.drop k) := ba_ext (by rw [extract_list, List.take_of_length_le (by rw [size_l]; omega)]; rfl)
        have hk0' : ((k : Int) == 0) = false := by rw [beq_eq_false_iff_ne]; omega
        go_wp2_with fail
        go_quiet (fail)
        go_wp2_with fail
        go_ret3
        have g1 : bs (s.data.toList.take s.size) = s := ba_ext (by rw [List.take_of_length_le (by rw [size_l]; omega)]; rfl)
        have g2 : bs (s.data.toList.drop s.size) = ByteArray.empty := ba_ext (by rw [List.drop_eq_nil_of_le (by rw [size_l]; omega)]; rfl)
        have g3 : Ending.returned (.tuple #[.string s, .string ByteArray.empty, .int .i64 0]) = Ending.returned (.tuple #[.string (bs (s.data.toList.take s.size)), .string (bs (s.data.toList.drop s.size)), .int .i64 0]) := by rw [g1, g2]
        exact ⟨g3, _, rfl⟩
end Go.Proofs.YtkbihipgnlglbaaGreatDoor
