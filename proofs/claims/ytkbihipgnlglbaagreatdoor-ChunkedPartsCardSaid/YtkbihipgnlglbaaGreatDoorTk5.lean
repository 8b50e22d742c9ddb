/-
  The contract of package token's Colon.
-/
import Derived.Test.YtkbihipgnlglbaaGreatDoorTk4
namespace Go.Proofs.YtkbihipgnlglbaaGreatDoor
open Go.RowKit

/-- the name and the value of a line, or the error -/
def colT (l : List UInt8) : List UInt8 × List UInt8 × Nat :=
  if (cutB 58 l).2.2 && isTok (cutB 58 l).1 && isVal (trimL (cutB 58 l).2.1) then ((cutB 58 l).1, trimL (cutB 58 l).2.1, 0) else ([], [], 3)
theorem bs_list (l : List UInt8) : (bs l).data.toList = l := rfl
theorem bs_size (l : List UInt8) : (bs l).size = l.length := by rw [← size_l, bs_list]
theorem cutB_len (c : UInt8) (l : List UInt8) : (cutB c l).1.length ≤ l.length ∧ (cutB c l).2.1.length ≤ l.length := by
  rcases idx_cases c l with ⟨_, h⟩ | ⟨a, r, h1, _, h⟩
  · rw [h]; simp
  · rw [h]
    have := congrArg List.length h1
    simp at this
    simp only
    omega

set_option maxRecDepth 100000 in
theorem TColon_any (s : ByteArray) (w : World) (hs : s.size ≤ 1000000) :
    Calls Tryz.prog 74 #[.string s] w fun e w' => e = .returned (.tuple #[.string (bs (colT s.data.toList).1), .string (bs (colT s.data.toList).2.1), .int .i64 (colT s.data.toList).2.2]) ∧ Below w.heap.size w w' := by
  have cC := fun w => StrCut_any s 58 w hs
  have hlen := cutB_len 58 s.data.toList
  have hcol : ∃ n v f, cutB 58 s.data.toList = (n, v, f) ∧ colT s.data.toList = if (f && isTok n && isVal (trimL v)) = true then (n, trimL v, 0) else ([], [], 3) := ⟨_, _, _, rfl, rfl⟩
  obtain ⟨n, v, f, hX, hcol⟩ := hcol
  rw [hX, size_l] at hlen
  rw [hX] at cC
  rw [hcol]
  obtain ⟨hl1, hl2⟩ := hlen
  simp only at hl1 hl2 cC
  have etr : tr (bs v) = bs (trimL v) := rfl
  have hl3 := trimL_le v
  have cT := fun w => TTrim_any (bs v) w (by rw [bs_size]; omega)
  have cI := fun w => TIs_any (bs n) w (by rw [bs_size]; omega)
  have cV := fun w => TValue_any (bs (trimL v)) w (by rw [bs_size]; omega)
  rw [bs_list] at cI cV
  rw [etr] at cT
  have CC := Lib.hid cC
  have CT := Lib.hid cT
  have CI := Lib.hid cI
  have CV := Lib.hid cV
  clear cC cT cI cV hX hcol etr hl1 hl2 hl3
  have e0 : (bs [] : ByteArray) = ⟨#[]⟩ := rfl
  cases f
  all_goals cases h1 : isTok n
  all_goals cases h2 : isVal (trimL v)
  all_goals (
    rw [h1] at CI
    rw [h2] at CV
    go_enter Tryz.func74, Tryz.ntmps74
    go_wp2_with fail
    (with_reducible refine (CC.out _).mono ?_); rintro e w1 ⟨rfl, hb1⟩
    go_wp2_with fail
    (with_reducible refine (CT.out _).mono ?_); rintro e w2 ⟨rfl, hb2⟩
    have hb2' := hb1.trans (hb2.mono hb1.size)
    go_wp2_with fail
    first
      | (go_ret3; exact ⟨rfl, hb2'⟩)
      | ((with_reducible refine (CI.out _).mono ?_); rintro e w3 ⟨rfl, hb3⟩
         have hb3' := hb2'.trans (hb3.mono hb2'.size)
         go_wp2_with fail
         first
           | (go_ret3; exact ⟨rfl, hb3'⟩)
           | ((with_reducible refine (CV.out _).mono ?_); rintro e w4 ⟨rfl, hb4⟩
              have hb4' := hb3'.trans (hb4.mono hb3'.size)
              go_wp2_with fail
              go_ret3; exact ⟨rfl, hb4'⟩)))
end Go.Proofs.YtkbihipgnlglbaaGreatDoor
