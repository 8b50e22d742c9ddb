/-
  The reference of tokens (waypostref05): of, Is.
-/
import Derived.Test.YtkbihipgnlglbaaGreatDoorTk5
namespace Go.Proofs.YtkbihipgnlglbaaGreatDoor
open Go.RowKit

def oth : ByteArray := ⟨#[33, 35, 36, 37, 38, 39, 42, 43, 45, 46, 94, 95, 96, 124, 126]⟩
theorem oth_list : oth.data.toList = tokO := rfl
theorem tok_iff (n : Nat) : tokP n = (decide (48 ≤ n ∧ n ≤ 57 ∨ 65 ≤ n ∧ n ≤ 90 ∨ 97 ≤ n ∧ n ≤ 122) || inB tokO n) := by
  simp only [tokP, anyP, inR, tokR, List.any_cons, List.any_nil, Bool.or_false]
  congr 1
  simp only [Bool.decide_or]
theorem inB_take (l : List UInt8) (k : Nat) (hk : k < l.length) (n : Nat) : inB (l.take (k + 1)) n = (inB (l.take k) n || decide (n = l[k].toNat)) := by
  rw [List.take_succ_eq_append_getElem hk, inB_snoc]
theorem inB_mem (l : List UInt8) (k : Nat) (hk : k < l.length) (n : Nat) (h : n = l[k].toNat) : inB l n = true := by
  simp only [inB, List.any_eq_true]; exact ⟨l[k], List.getElem_mem hk, by simp [h]⟩

set_option maxRecDepth 100000 in
set_option maxHeartbeats 4000000 in
theorem rof (c : UInt8) (w : World) :
    Calls Tryz.prog 93 #[.int .u8 c.toNat] w fun e w' => e = .returned (.bool (tokB c)) ∧ w = w' := by
  unfold tokB
  have hc := c.toNat_lt
  obtain ⟨n, hn⟩ : ∃ n, c.toNat = n := ⟨_, rfl⟩
  rw [hn] at hc ⊢
  have h7 : (48 ≤ n ∧ n ≤ 57) ∨ (97 ≤ n ∧ n ≤ 122) ∨ (65 ≤ n ∧ n ≤ 90) ∨ n < 48 ∨ (57 < n ∧ n < 65) ∨ (90 < n ∧ n < 97) ∨ 122 < n := by omega
  by_cases hT : (48 ≤ n ∧ n ≤ 57) ∨ (97 ≤ n ∧ n ≤ 122) ∨ (65 ≤ n ∧ n ≤ 90)
  · have hv : tokP n = true := by rw [tok_iff, Bool.or_eq_true]; exact .inl (by simp; omega)
    rw [hv]
    clear h7
    rcases hT with ⟨h1, h2⟩ | ⟨h1, h2⟩ | ⟨h1, h2⟩
    all_goals (
      go_enter Tryz.func93, Tryz.ntmps93
      go_wp2_with fail
      go_ret
      exact ⟨rfl, rfl⟩)
  · have h4 : n < 48 ∨ (57 < n ∧ n < 65) ∨ (90 < n ∧ n < 97) ∨ 122 < n := by omega
    have hv : tokP n = inB tokO n := by
      rw [tok_iff]
      have : decide (48 ≤ n ∧ n ≤ 57 ∨ 65 ≤ n ∧ n ≤ 90 ∨ 97 ≤ n ∧ n ≤ 122) = false := by simp; omega
      rw [this, Bool.false_or]
    clear h7 hT
    rw [hv]
    obtain ⟨R, hR⟩ : ∃ R, inB tokO n = R := ⟨_, rfl⟩
    rw [hR]
    have HR := Lib.hid hR
    clear hR hv
    rcases h4 with h1 | ⟨h1, h2⟩ | ⟨h1, h2⟩ | h1
    all_goals (
      go_enter Tryz.func93, Tryz.ntmps93
      go_wp2_with fail
      go_loop [3] (fun i => ∃ k : Nat, i = .int .i64 k ∧ k ≤ 15 ∧ Hid (inB (tokO.take k) n = false)) (fun i => 15 - (intOf i).toNat)
      case atStart => exact ⟨0, rfl, by omega, hide rfl⟩
      case round =>
        obtain ⟨k, rfl, hk, HN⟩ := hrel
        by_cases hlt : k < 15
        · have hkt : k < tokO.length := hlt
          have hidx : ((⟨#[33, 35, 36, 37, 38, 39, 42, 43, 45, 46, 94, 95, 96, 124, 126]⟩ : ByteArray)[k]'hlt) = tokO[k] := rfl
          by_cases he : tokO[k].toNat = n
          · have hb : (((((⟨#[33, 35, 36, 37, 38, 39, 42, 43, 45, 46, 94, 95, 96, 124, 126]⟩ : ByteArray)[k]'hlt).toNat : Nat) : Int) == (n : Int)) = true := eqb_t (by rw [hidx]; omega)
            have hres : R = true := by rw [← HR.out]; exact inB_mem _ k hkt _ (by omega)
            subst hres
            go_wp2_with fail
            go_ret
            exact ⟨rfl, rfl⟩
          · have hb : (((((⟨#[33, 35, 36, 37, 38, 39, 42, 43, 45, 46, 94, 95, 96, 124, 126]⟩ : ByteArray)[k]'hlt).toNat : Nat) : Int) == (n : Int)) = false := eqb_f (by rw [hidx]; omega)
            go_wp2_with fail
            go_round
            case rel =>
              refine ⟨k + 1, by go_num, by omega, hide ?_⟩
              rw [inB_take _ _ hkt, HN.out]
              simp; omega
            case measure => simp [intOf]; omega
        · have hk15 : k = 15 := by omega
          subst hk15
          have hd : decide ((15 : Int) < 15) = false := by simp
          have hres : R = false := by rw [← HR.out]; exact HN.out
          subst hres
          go_wp2_with fail
          go_ret
          exact ⟨rfl, rfl⟩)

theorem isTok_iff (s : ByteArray) : isTok s.data.toList = (!(s.data.toList.isEmpty) && s.data.toList.all tokB) := rfl
theorem all_snoc_false (l : List UInt8) (k : Nat) (hk : k < l.length) (p : UInt8 → Bool) (h : p l[k] = false) : l.all p = false := by
  rw [List.all_eq_false]; exact ⟨l[k], List.getElem_mem hk, by simp [h]⟩

end Go.Proofs.YtkbihipgnlglbaaGreatDoor
