/-
  The reference of tokens (waypostref05): inner, Value, Lower, Same.
-/
import Derived.Test.YtkbihipgnlglbaaGreatDoorTr2
namespace Go.Proofs.YtkbihipgnlglbaaGreatDoor
open Go.RowKit

def valB (b : UInt8) : Bool := valP b.toNat
theorem val_iff (n : Nat) : valP n = true ↔ n = 32 ∨ n = 9 ∨ 33 ≤ n ∧ n ≤ 126 ∨ 128 ≤ n ∧ n ≤ 255 := by
  simp only [valP, anyP, inR, valR, inB, valO, List.any_cons, List.any_nil, Bool.or_false, Bool.or_eq_true, decide_eq_true_eq]
  have h1 : (32 : UInt8).toNat = 32 := rfl
  have h2 : (9 : UInt8).toNat = 9 := rfl
  rw [h1, h2]
  omega

set_option maxRecDepth 100000 in
set_option maxHeartbeats 4000000 in
theorem rinner (s : ByteArray) (w : World) (hs : s.size ≤ 9223372036854775807) :
    Calls Tryz.prog 94 #[.string s] w fun e w' => e = .returned (.bool (s.data.toList.all valB)) ∧ w = w' := by
  obtain ⟨R, hR⟩ : ∃ R, s.data.toList.all valB = R := ⟨_, rfl⟩
  rw [hR]
  have HR := Lib.hid hR
  have CB := Lib.hid rblank
  clear hR
  go_enter Tryz.func94, Tryz.ntmps94
  go_wp2_with fail
  go_loop [3] (fun i => ∃ k : Nat, i = .int .i64 k ∧ k ≤ s.size ∧ Hid (∀ b ∈ s.data.toList.take k, valB b = true)) (fun i => s.size - (intOf i).toNat)
  case atStart => exact ⟨0, rfl, by omega, hide (by simp)⟩
  case round =>
    obtain ⟨k, rfl, hk, HT⟩ := hrel
    by_cases hlt : k < s.size
    · have hc8 := s[k].toNat_lt
      have hstep : valB s[k] = true → Hid (∀ b ∈ s.data.toList.take (k + 1), valB b = true) := fun ht => by
        have hkl : k < s.data.toList.length := by rw [size_l]; omega
        rw [List.take_succ_eq_append_getElem hkl]
        intro b hb
        rcases List.mem_append.1 hb with hb | hb
        · exact HT.out b hb
        · rw [List.mem_singleton.1 hb]; exact ht
      have hfall : valB s[k] = false → R = false := fun ht => by
        rw [← HR.out]; exact all_snoc_false s.data.toList k (by rw [size_l]; omega) valB ht
      have hvi := val_iff s[k].toNat
      have hbi := isB_iff s[k]
      go_wp2_with fail
      (with_reducible refine (CB.out _ _).mono ?_); rintro e w1 ⟨rfl, rfl⟩
      by_cases hbl : isB s[k] = true
      · have ht := hstep (hvi.2 (by have := hbi.1 hbl; omega))
        clear hstep hfall hvi hbi
        rw [hbl]
        go_wp2_with fail
        go_round
        case rel => exact ⟨k + 1, by go_num, by omega, ht⟩
        case measure => simp [intOf]; omega
      · have hbf : isB s[k] = false := by simpa using hbl
        have hnb : ¬ (s[k].toNat = 32 ∨ s[k].toNat = 9) := fun h => hbl (hbi.2 h)
        rw [hbf]
        by_cases h33 : s[k].toNat < 33
        · have hres : R = false := hfall (by
            cases h : valB s[k] with
            | false => rfl
            | true => have := hvi.1 h; omega)
          clear hstep hfall hvi hbi
          subst hres
          have hd : decide ((s[k].toNat : Int) < 33) = true := by simp; omega
          go_wp2_with fail
          go_ret
          exact ⟨rfl, rfl⟩
        · by_cases h127 : s[k].toNat = 127
          · have hres : R = false := hfall (by
              cases h : valB s[k] with
              | false => rfl
              | true => have := hvi.1 h; omega)
            have hb1 := eqb_t (show (s[k].toNat : Int) = 127 by omega)
            have hd : decide ((s[k].toNat : Int) < 33) = false := by simp; omega
            clear hstep hfall hvi hbi h127
            subst hres
            go_wp2_with fail
            go_ret
            exact ⟨rfl, rfl⟩
          · have ht := hstep (hvi.2 (by omega))
            have hb1 := eqb_f (show (s[k].toNat : Int) ≠ 127 by omega)
            have hd : decide ((s[k].toNat : Int) < 33) = false := by simp; omega
            clear hstep hfall hvi hbi h127
            go_wp2_with fail
            go_round
            case rel => exact ⟨k + 1, by go_num, by omega, ht⟩
            case measure => simp [intOf]; omega
    · have hkl : k = s.size := by omega
      subst hkl
      have hd : decide ((s.size : Int) < (s.size : Int)) = false := by simp
      have hres : R = true := by
        rw [← HR.out, List.all_eq_true]
        intro b hb
        exact HT.out b (by rw [List.take_of_length_le (by rw [size_l]; omega)]; exact hb)
      subst hres
      go_wp2_with fail
      go_ret
      exact ⟨rfl, rfl⟩

theorem rValue (s : ByteArray) (w : World) (hs : s.size ≤ 1000000) :
    Calls Tryz.prog 80 #[.string s] w fun e w' => e = .returned (.bool (isVal s.data.toList)) ∧ w = w' := by
  have cI := fun w => rinner s w (by omega)
  have cT := fun w => rTrim s w hs
  have hv : isVal s.data.toList = ((tr s).toList == s.toList && s.data.toList.all valB) := by rw [Lib.toList_data, Lib.toList_data]; rfl
  rw [hv]
  cases hi : s.data.toList.all valB
  all_goals (
    rw [hi] at cI
    have CI := Lib.hid cI
    have CT := Lib.hid cT
    clear cI cT hv hi
    go_enter Tryz.func80, Tryz.ntmps80
    go_wp2_with fail
    (with_reducible refine (CI.out _).mono ?_); rintro e w1 ⟨rfl, rfl⟩
    go_wp2_with fail
    first
      | (go_ret; exact ⟨ret_bool (by simp), rfl⟩)
      | ((with_reducible refine (CT.out _).mono ?_); rintro e w2 ⟨rfl, rfl⟩
         go_wp2_with fail
         go_ret
         exact ⟨ret_bool (by simp), rfl⟩))

end Go.Proofs.YtkbihipgnlglbaaGreatDoor
