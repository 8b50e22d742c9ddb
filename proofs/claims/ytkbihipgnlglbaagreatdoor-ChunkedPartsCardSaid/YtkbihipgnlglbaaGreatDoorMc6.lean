/-
  The decoder that is fed: data.
-/
import Derived.Test.YtkbihipgnlglbaaGreatDoorMc2
import Derived.Test.YtkbihipgnlglbaaGreatDoorBa
namespace Go.Proofs.YtkbihipgnlglbaaGreatDoor
open Go.RowKit

theorem Blk.grownBy {w w' : World} {g : Nat} {t : TypeId} {cs : Array Value} {row : Option Nat} (h : Blk w g t cs) (hg : w.grownBy w' row) (hne : row ≠ some g) : Blk w' g t cs := by
  show w'.heap[g]? = _
  rw [hg.block g h.lt (fun e => hne e.symm)]
  exact h
theorem BytesAt.shape {w : World} {v : Value} {xs : List UInt8} (h : BytesAt w v xs) : ∃ g cap, v = .slice (some ⟨g, 0, none⟩) xs.length cap := by
  obtain ⟨g, cap, cur, fz, rfl, _⟩ := h
  exact ⟨g, cap, rfl⟩
set_option maxRecDepth 100000 in
set_option maxHeartbeats 8000000 in
theorem mData (st size dg : Int) (left : Nat) (B L : ByteArray) (lines status : Int) (x : UInt8) (v : Value) (xs : List UInt8) (hl1 : 1 ≤ left) (hl2 : left ≤ 2048) (hx : xs.length ≤ 1000000) (g : Nat) (W : World) (hB : Blk W g 66 (mC st size dg left B L lines status v)) (hV : BytesAt W v xs) :
    Calls Tryz.prog 58 #[.pointer (some ⟨g, 0, none⟩), .int .u8 (x.toNat : Int)] W fun e w' => e = .returned (.tuple #[]) ∧ ∃ v' w5, BytesAt w' v' (xs ++ [x]) ∧ Blk w' g 66 (if left = 1 then mC 3 0 0 0 ⟨#[]⟩ ⟨#[]⟩ lines 0 v' else mC st size dg ((left - 1 : Nat) : Int) B L lines status v') ∧ W.grownBy w5 v.ownBlock ∧ w5.grownBy w' (some g) ∧ (∀ k, v'.ownBlock = some k → v.ownBlock = some k ∨ W.heap.size ≤ k) := by
  have hne := hV.ne hB (by decide)
  obtain ⟨v', w5, hrun, hba, hg, hkk⟩ := app_byte hV hx x
  have HK := Lib.hid hkk
  clear hkk
  obtain ⟨g7, cap7, hv7⟩ := hba.shape
  rw [List.length_append, List.length_singleton] at hv7
  subst hv7
  obtain ⟨g6, cap6, rfl⟩ := hV.shape
  have p8 : W.cell? ⟨g, 8, none⟩ = some (.slice (some ⟨g6, 0, none⟩) xs.length cap6) := hB.cell 8
  have hB5 := hB.grownBy hg hne
  have hne5 := hba.ne hB5 (by decide)
  have q8 : w5.cell? ⟨g, 8, none⟩ = some (.slice (some ⟨g6, 0, none⟩) xs.length cap6) := hB5.cell 8
  have q3 : w5.cell? ⟨g, 3, none⟩ = some (.int .i64 (left : Int)) := hB5.cell 3
  have f8 : w5.frozen? ⟨g, 8, none⟩ = false := hB5.frozen 8
  have f3 : w5.frozen? ⟨g, 3, none⟩ = false := hB5.frozen 3
  have hw1 : IntKind.i64.wrap ((left : Int) - 1) = ((left - 1 : Nat) : Int) := by rw [IntKind.wrap_i64]; omega
  have b := (hB5.set_ 8 (.slice (some ⟨g7, 0, none⟩) (xs.length + 1) cap7)).set_ 3 (.int .i64 ((left - 1 : Nat) : Int))
  have e : ((mC st size dg left B L lines status (.slice (some ⟨g6, 0, none⟩) xs.length cap6)).setIfInBounds 8 (.slice (some ⟨g7, 0, none⟩) (xs.length + 1) cap7)).setIfInBounds 3 (.int .i64 ((left - 1 : Nat) : Int)) = mC st size dg ((left - 1 : Nat) : Int) B L lines status (.slice (some ⟨g7, 0, none⟩) (xs.length + 1) cap7) := by simp [mC]
  rw [e] at b
  have gr : w5.grownBy ((w5.setCell ⟨g, 8, none⟩ (.slice (some ⟨g7, 0, none⟩) (xs.length + 1) cap7)).setCell ⟨g, 3, none⟩ (.int .i64 ((left - 1 : Nat) : Int))) (some g) := Lib.grownBy_setB (Lib.grownBy_setB (World.grownBy.refl w5 (some g)) 8 _) 3 _
  have hba2 := hba.kept gr hne5
  have HRUN := Lib.hid hrun
  clear hrun
  have CT := Lib.hid (mTo st size dg ((left - 1 : Nat) : Int) B L lines status (.slice (some ⟨g7, 0, none⟩) (xs.length + 1) cap7) 3 g _ b)
  have HB := Lib.hid b
  have HA := Lib.hid hba2
  have HN := Lib.hid (hba2.ne b (by decide))
  have HG := Lib.hid hg
  have HR := Lib.hid gr
  clear hba2 b e gr hba hne hne5 hg hV hB hB5
  by_cases h1 : left = 1
  · simp only [if_pos h1]
    have e1 : ((((left - 1 : Nat) : Int)) == 0) = true := by rw [beq_iff_eq]; omega
    have e2 : (((left - 1 : Nat) : Int)) = 0 := by omega
    clear h1
    generalize ((left - 1 : Nat) : Int) = D at *
    subst e2
    go_enter Tryz.func58, Tryz.ntmps58
    go_wp2_with (at_builtin; refine wpList_append_run HRUN.out rfl _ _ rfl rfl rfl rfl ?_)
    (with_reducible refine (CT.out).mono ?_); rintro e w2 ⟨rfl, hb, hg⟩
    go_wp2_with fail
    first | go_end0 | (refine bodyPost_ret (results_none rfl _ _ _) rfl ?_)
    exact ⟨rfl, _, w5, HA.out.kept hg HN.out, hb, HG.out, Lib.grownBy_trans HR.out hg, HK.out⟩
  · simp only [if_neg h1]
    have e1 : ((((left - 1 : Nat) : Int)) == 0) = false := by rw [beq_eq_false_iff_ne]; omega
    clear h1
    generalize ((left - 1 : Nat) : Int) = D at *
    go_enter Tryz.func58, Tryz.ntmps58
    go_wp2_with (at_builtin; refine wpList_append_run HRUN.out rfl _ _ rfl rfl rfl rfl ?_)
    first | go_end0 | (refine bodyPost_ret (results_none rfl _ _ _) rfl ?_)
    exact ⟨rfl, _, w5, HA.out, HB.out, HG.out, HR.out, HK.out⟩
end Go.Proofs.YtkbihipgnlglbaaGreatDoor
