/-
  The line of a field and its error, of the program and of the reference.
-/
import Derived.Test.YtpdohlnobbimaaaDoorFdP
import Derived.Test.YtpdohlnobbimaaaDoorTr5
namespace Go.Proofs.YtpdohlnobbimaaaDoor
open Go.RowKit

theorem pline (f : Fld) (w : World) (h1 : f.1.length ≤ 1000000) (h2 : f.2.length ≤ 1000000) :
    Calls Tryd.prog 60 #[fldV f] w fun e w' => e = .returned (.string (bs (lineL f))) ∧ Below w.heap.size w w' := by
  have s1 : (bs f.1).size ≤ 1000000 := by rw [bs_size]; exact h1
  have s2 : (bs f.2).size ≤ 1000000 := by rw [bs_size]; exact h2
  by_cases he : f.2 = []
  · have e1 : (bs f.2).toList.isEmpty = true := by rw [Lib.toList_data, bs_list, he]; rfl
    have hl : bs f.1 ++ ⟨#[58]⟩ = bs (lineL f) := ba_ext (by rw [append_toList, bs_list, bs_list, lineL, if_pos he])
    have HL := Lib.hid hl
    unfold fldV
    clear he hl
    go_enter Tryd.func60, Tryd.ntmps60
    go_wp2_with fail
    go_ret
    exact ⟨ret_str HL.out, (Below.refl _ _).alloc (Nat.le_refl _) _⟩
  · have e1 : (bs f.2).toList.isEmpty = false := by rw [Lib.toList_data, bs_list]; simpa using he
    have hl : (bs f.1 ++ ⟨#[58, 32]⟩) ++ bs f.2 = bs (lineL f) := ba_ext (by rw [append_toList, append_toList, bs_list, bs_list, bs_list, lineL, if_neg he])
    have HL := Lib.hid hl
    unfold fldV
    clear he hl
    go_enter Tryd.func60, Tryd.ntmps60
    go_wp2_with fail
    go_ret
    exact ⟨ret_str HL.out, (Below.refl _ _).alloc (Nat.le_refl _) _⟩
set_option maxHeartbeats 4000000 in
theorem pone (f : Fld) (w : World) (h1 : f.1.length ≤ 100000) (h2 : f.2.length ≤ 100000) :
    Calls Tryd.prog 59 #[fldV f] w fun e w' => e = .returned (.int .i64 (oneL f)) ∧ Below w.heap.size w w' := by
  have cI := fun w => TIs_any (bs f.1) w (by rw [bs_size]; omega)
  have cV := fun w => TValue_any (bs f.2) w (by rw [bs_size]; omega)
  have cL := fun w => pline f w (by omega) (by omega)
  rw [bs_list] at cI cV
  have hll : (bs (lineL f)).size ≤ 300000 := by rw [bs_size]; have := lineL_len f; omega
  obtain ⟨E, hE⟩ : ∃ E, oneL f = E := ⟨_, rfl⟩
  rw [hE]
  unfold oneL at hE
  unfold fldV at cL ⊢
  rcases Bool.eq_false_or_eq_true (isTok f.1) with ht | ht
  · rw [ht] at cI hE
    rw [if_neg (by simp)] at hE
    rcases Bool.eq_false_or_eq_true (isVal f.2) with hv | hv
    · rw [hv] at cV hE
      rw [if_neg (by simp)] at hE
      have CI := Lib.hid cI
      have CV := Lib.hid cV
      have CL := Lib.hid cL
      have hsz : (bs (lineL f)).size = (lineL f).length := bs_size _
      clear cI cV cL ht hv
      have hx : (512 < (bs (lineL f)).size ∧ E = 4) ∨ ((bs (lineL f)).size ≤ 512 ∧ E = 0) := by
        by_cases h5 : 512 < (lineL f).length
        · rw [if_pos h5] at hE; exact .inl ⟨by omega, hE.symm⟩
        · rw [if_neg h5] at hE; exact .inr ⟨by omega, hE.symm⟩
      clear hE hsz
      rcases hx with ⟨h5, rfl⟩ | ⟨h5, rfl⟩
      all_goals (
        go_enter Tryd.func59, Tryd.ntmps59
        go_wp2_with fail
        (with_reducible refine (CI.out _).mono ?_); rintro e w1 ⟨rfl, hb1⟩
        have hW1 : Below w.heap.size w w1 := ((Below.refl _ _).alloc (Nat.le_refl _) _).trans (hb1.mono (by simp))
        have hB1 : Blk w1 w.heap.size 36 #[.string (bs f.1), .string (bs f.2)] := (Blk.new w _ _).below hb1 (by simp)
        have c1 : w1.cell? ⟨w.heap.size, 1, none⟩ = some (.string (bs f.2)) := hB1.cell 1
        have H1 := Lib.hid hB1
        clear hB1
        go_wp2_with fail
        (with_reducible refine (CV.out _).mono ?_); rintro e w2 ⟨rfl, hb2⟩
        have hB2 : Blk w2 w.heap.size 36 #[.string (bs f.1), .string (bs f.2)] := H1.out.below hb2 H1.out.lt
        have d0 : w2.cell? ⟨w.heap.size, 0, none⟩ = some (.string (bs f.1)) := hB2.cell 0
        have d1 : w2.cell? ⟨w.heap.size, 1, none⟩ = some (.string (bs f.2)) := hB2.cell 1
        clear hB2
        have hW2 : Below w.heap.size w w2 := hW1.trans (hb2.mono hW1.size)
        go_wp2_with fail
        (with_reducible refine (CL.out _).mono ?_); rintro e w3 ⟨rfl, hb3⟩
        go_wp2_with fail
        go_ret
        exact ⟨rfl, hW2.trans (hb3.mono hW2.size)⟩)
    · rw [hv] at cV hE
      rw [if_pos rfl] at hE
      have CI := Lib.hid cI
      have CV := Lib.hid cV
      subst hE
      clear cI cV cL ht hv
      go_enter Tryd.func59, Tryd.ntmps59
      go_wp2_with fail
      (with_reducible refine (CI.out _).mono ?_); rintro e w1 ⟨rfl, hb1⟩
      have hW1 : Below w.heap.size w w1 := ((Below.refl _ _).alloc (Nat.le_refl _) _).trans (hb1.mono (by simp))
      have hB1 : Blk w1 w.heap.size 36 #[.string (bs f.1), .string (bs f.2)] := (Blk.new w _ _).below hb1 (by simp)
      have c1 : w1.cell? ⟨w.heap.size, 1, none⟩ = some (.string (bs f.2)) := hB1.cell 1
      clear hB1
      go_wp2_with fail
      (with_reducible refine (CV.out _).mono ?_); rintro e w2 ⟨rfl, hb2⟩
      have hW2 : Below w.heap.size w w2 := hW1.trans (hb2.mono hW1.size)
      go_wp2_with fail
      go_ret
      exact ⟨rfl, hW2⟩
  · rw [ht] at cI hE
    rw [if_pos rfl] at hE
    have CI := Lib.hid cI
    subst hE
    clear cI cV cL ht
    go_enter Tryd.func59, Tryd.ntmps59
    go_wp2_with fail
    (with_reducible refine (CI.out _).mono ?_); rintro e w1 ⟨rfl, hb1⟩
    have hW1 : Below w.heap.size w w1 := ((Below.refl _ _).alloc (Nat.le_refl _) _).trans (hb1.mono (by simp))
    go_wp2_with fail
    go_ret
    exact ⟨rfl, hW1⟩
end Go.Proofs.YtpdohlnobbimaaaDoor
