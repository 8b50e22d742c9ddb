/-
  One element more at a slice that the call owns: texts, numbers, fields.
-/
import Derived.Test.YtpdohlnobbimaaaDoorProg
import Derived.Test.YtpdohlnobbimaaaDoorOw
import Derived.Test.YtpdohlnobbimaaaDoorFdP
namespace Go.Proofs.YtpdohlnobbimaaaDoor
open Go.RowKit

theorem infoStrA : (Tryd.prog.info? 9).map (fun i => (i.zero, i.size, i.bytes)) = some (some (.string .empty), 1, 16) := by kernel_rfl
theorem infoIntA : (Tryd.prog.info? 3).map (fun i => (i.zero, i.size, i.bytes)) = some (some (.int .i64 0), 1, 8) := by kernel_rfl
theorem infoFldA : (Tryd.prog.info? 36).map (fun i => (i.zero, i.size, i.bytes)) = some (some (.agg #[.string .empty, .string .empty]), 2, 32) := by kernel_rfl

def ints (l : List Nat) : List Value := l.map fun i : Nat => Value.int .i64 (i : Int)
theorem ints_app (l m : List Nat) : ints (l ++ m) = ints l ++ ints m := by simp [ints]
theorem ints_len (l : List Nat) : (ints l).length = l.length := by simp [ints]
theorem ints_get (l : List Nat) (k : Nat) (h : k < l.length) : (ints l)[k]? = some (.int .i64 l[k]) := by simp [ints, h]

theorem app_txt {base : Nat} {W : World} {v : Value} {xs : List (List UInt8)} (ho : W.ownsRow base 9 1 v xs.length (strs xs)) (hb : base ≤ W.heap.size) (hl : xs.length ≤ 1000000) (y : List UInt8) :
    ∃ v' w5, (Builtin.append_ #[26, 26] 26 #[v, .slice (some ⟨W.heap.size, 0, none⟩) 1 1]).run Tryd.prog (W.alloc (.cells #[.string (bs y)] 9)) = .ok v' w5 ∧ w5.ownsRow base 9 1 v' (xs ++ [y]).length (strs (xs ++ [y])) ∧
      Below base W w5 ∧ W.grownBy w5 v.ownBlock := by
  obtain ⟨i0, hi, hz0, hz1, hz2⟩ := info_parts infoStrA
  obtain ⟨v', w5, hrun, hown, hg, hlt, _⟩ := app_one (P := Tryd.prog) 26 26 9 i0 (.string .empty) 1 16 Tryd.underlying26 hi hz0 hz1 hz2 rfl (by decide) base W v _ _ ho #[.string (bs y)] rfl (by intro u hu; simp at hu; subst hu; rfl) 9 (by unfold maxLen; omega) (by omega) hb
  refine ⟨v', w5, hrun, ?_, (Below.refl base W).grown hg hb (own_ge ho), hg⟩
  rw [strs_app, List.length_append]; exact hown
theorem app_int {base : Nat} {W : World} {v : Value} {xs : List Nat} (ho : W.ownsRow base 3 1 v xs.length (ints xs)) (hb : base ≤ W.heap.size) (hl : xs.length ≤ 1000000) (y : Nat) :
    ∃ v' w5, (Builtin.append_ #[22, 22] 22 #[v, .slice (some ⟨W.heap.size, 0, none⟩) 1 1]).run Tryd.prog (W.alloc (.cells #[.int .i64 y] 3)) = .ok v' w5 ∧ w5.ownsRow base 3 1 v' (xs ++ [y]).length (ints (xs ++ [y])) ∧
      Below base W w5 ∧ W.grownBy w5 v.ownBlock := by
  obtain ⟨i0, hi, hz0, hz1, hz2⟩ := info_parts infoIntA
  obtain ⟨v', w5, hrun, hown, hg, hlt, _⟩ := app_one (P := Tryd.prog) 22 22 3 i0 (.int .i64 0) 1 8 Tryd.underlying22 hi hz0 hz1 hz2 rfl (by decide) base W v _ _ ho #[.int .i64 y] rfl (by intro u hu; simp at hu; subst hu; rfl) 3 (by unfold maxLen; omega) (by omega) hb
  refine ⟨v', w5, hrun, ?_, (Below.refl base W).grown hg hb (own_ge ho), hg⟩
  rw [ints_app, List.length_append]; exact hown
theorem app_fld {base : Nat} {W : World} {v : Value} {xs : List Fld} (ho : W.ownsRow base 36 2 v xs.length (fldsC xs)) (hb : base ≤ W.heap.size) (hl : xs.length ≤ 1000000) (y : Fld) :
    ∃ v' w5, (Builtin.append_ #[24, 24] 24 #[v, .slice (some ⟨W.heap.size, 0, none⟩) 1 1]).run Tryd.prog (W.alloc (.cells #[.string (bs y.1), .string (bs y.2)] 36)) = .ok v' w5 ∧ w5.ownsRow base 36 2 v' (xs ++ [y]).length (fldsC (xs ++ [y])) ∧
      Below base W w5 ∧ W.grownBy w5 v.ownBlock := by
  obtain ⟨i0, hi, hz0, hz1, hz2⟩ := info_parts infoFldA
  obtain ⟨v', w5, hrun, hown, hg, hlt, _⟩ := app_one (P := Tryd.prog) 24 24 36 i0 (.agg #[.string .empty, .string .empty]) 2 32 Tryd.underlying24 hi hz0 hz1 hz2 rfl (by decide) base W v _ _ ho #[.string (bs y.1), .string (bs y.2)] rfl (by intro u hu; simp at hu; rcases hu with rfl | rfl <;> rfl) 36 (by unfold maxLen; omega) (by omega) hb
  refine ⟨v', w5, hrun, ?_, (Below.refl base W).grown hg hb (own_ge ho), hg⟩
  rw [fldsC_app, List.length_append]; exact hown
end Go.Proofs.YtpdohlnobbimaaaDoor
