/-
  ChunkedKnown, the law.
-/
import Derived.Test.YtkbihipgnlglbaaGreatDoorLa10
namespace Go.Proofs.YtkbihipgnlglbaaGreatDoor
open Go.RowKit

theorem rest10n (w : World) : Calls Tryz.prog 15 #[.agg #[.int .i64 0, .int .i64 0, .int .i64 0, .int .i64 0, .string ⟨#[]⟩, .string ⟨#[]⟩, .int .i64 0, .int .i64 0]] w fun e w' => e = .returned (.tuple #[.int .i64 2048, .int .i64 0]) ∧ Below w.heap.size w w' := pRest okC_new cleanCA_nil w
theorem encK2 : encOut (⟨#[]⟩ : ByteArray).data.toList [] = (linesT (⟨#[48, 47, 47]⟩ : ByteArray).data.toList, 0) := by
  unfold encOut
  rw [if_neg (by decide), if_pos (by decide)]
  exact congrArg (·, 0) chE2
theorem enc0 (A : Option Addr) (w : World) (hr : Reads w w.heap.size 1 A 1 ([(0 : Int)].map (Value.int .i64))) (ht : Held10 w) : Calls Tryz.prog 12 #[.string ⟨#[97]⟩, .slice A 1 1] w fun e w' => e = .returned (.tuple #[.string ⟨#[]⟩, .int .i64 2]) ∧ Below w.heap.size w w' := by
  have c := pEncode [97] A 1 1 [0] w hr (by omega) (by decide) ht.1
  rw [show encOut [97] [0] = ([], 2) by decide] at c
  exact c
set_option maxRecDepth 100000 in
set_option maxHeartbeats 8000000 in
theorem ChunkedKnown_true (w : World) (hw : Held10 w) : Calls Tryz.prog 5 #[] w fun e w' => e = .returned (.bool true) ∧ Below w.heap.size w w' := by
  have TB := Lib.hid (fun X (h : Below w.heap.size w X) => hw.below h)
  have CN := Lib.hid (fun w => pNew w)
  rw [show ckV newC = #[.int .i64 0, .int .i64 0, .int .i64 0, .int .i64 0, .string ⟨#[]⟩, .string ⟨#[]⟩, .int .i64 0, .int .i64 0] from rfl] at CN
  have H0 := Lib.hid hw
  clear hw
  go_enter Tryz.func5, Tryz.ntmps5
  have HS := Lib.hid (reads_z w 3 [0] #[.int .i64 0] rfl)
  have g := (Below.refl w.heap.size w).alloc (Nat.le_refl _) (.cells #[.int .i64 0] 3)
  have hA := g
  have HT := Lib.hid (TB.out _ hA)
  clear g
  go_wp2_with fail
  (with_reducible refine (enc0 _ _ HS.out HT.out).mono ?_); rintro e w1 ⟨rfl, g⟩
  have h1 := hA.trans (g.mono hA.size)
  clear g hA
  clear HS HT
  go_wp2_with fail
  (with_reducible refine (CN.out _).mono ?_); rintro e w2 ⟨rfl, g⟩
  have h2 := h1.trans (g.mono h1.size)
  clear g h1
  go_wp2_with fail
  (with_reducible refine (rest10n _).mono ?_); rintro e w3 ⟨rfl, g⟩
  have h3 := h2.trans (g.mono h2.size)
  clear g h2
  have HT := Lib.hid (TB.out _ h3)
  go_wp2_with fail
  (with_reducible refine (decodes_hit ⟨#[51, 47, 97, 98, 99, 47, 48, 48, 47, 120, 58, 32, 49, 47, 47, 122]⟩ ⟨#[97, 98, 99]⟩ 20 200 20 200 (by decide) chD2 rfl rfl _ HT.out).mono ?_); rintro e w4 ⟨rfl, g⟩
  have h4 := h3.trans (g.mono h3.size)
  clear g h3
  clear HT
  have HT := Lib.hid (TB.out _ h4)
  go_wp2_with fail
  (with_reducible refine (decodes_hit ⟨#[51, 47, 97, 98]⟩ ⟨#[97, 98]⟩ 5 0 5 0 (by decide) chD3 rfl rfl _ HT.out).mono ?_); rintro e w5 ⟨rfl, g⟩
  have h5 := h4.trans (g.mono h4.size)
  clear g h4
  clear HT
  have HT := Lib.hid (TB.out _ h5)
  go_wp2_with fail
  (with_reducible refine (decodes_hit ⟨#[103]⟩ ⟨#[]⟩ 1 400 1 400 (by decide) chD4 rfl rfl _ HT.out).mono ?_); rintro e w6 ⟨rfl, g⟩
  have h6 := h5.trans (g.mono h5.size)
  clear g h5
  clear HT
  have HT := Lib.hid (TB.out _ h6)
  go_wp2_with fail
  (with_reducible refine (decodes_hit ⟨#[51, 32, 47]⟩ ⟨#[]⟩ 2 400 2 400 (by decide) chD5 rfl rfl _ HT.out).mono ?_); rintro e w7 ⟨rfl, g⟩
  have h7 := h6.trans (g.mono h6.size)
  clear g h6
  clear HT
  have HT := Lib.hid (TB.out _ h7)
  go_wp2_with fail
  (with_reducible refine (decodes_hit ⟨#[47]⟩ ⟨#[]⟩ 1 400 1 400 (by decide) chD6 rfl rfl _ HT.out).mono ?_); rintro e w8 ⟨rfl, g⟩
  have h8 := h7.trans (g.mono h7.size)
  clear g h7
  clear HT
  have HT := Lib.hid (TB.out _ h8)
  go_wp2_with fail
  (with_reducible refine (decodes_hit ⟨#[49, 50, 51, 52, 53, 54, 55, 56, 57]⟩ ⟨#[]⟩ 9 400 9 400 (by decide) chD7 rfl rfl _ HT.out).mono ?_); rintro e w9 ⟨rfl, g⟩
  have h9 := h8.trans (g.mono h8.size)
  clear g h8
  clear HT
  have HT := Lib.hid (TB.out _ h9)
  go_wp2_with fail
  (with_reducible refine (decodes_hit ⟨#[56, 48, 49, 47]⟩ ⟨#[]⟩ 5 413 5 413 (by decide) chD8 rfl rfl _ HT.out).mono ?_); rintro e w10 ⟨rfl, g⟩
  have h10 := h9.trans (g.mono h9.size)
  clear g h9
  clear HT
  have HT := Lib.hid (TB.out _ h10)
  go_wp2_with fail
  (with_reducible refine (decodes_hit ⟨#[102, 102, 102, 102, 102, 102, 102, 102, 47]⟩ ⟨#[]⟩ 10 413 10 413 (by decide) chD9 rfl rfl _ HT.out).mono ?_); rintro e w11 ⟨rfl, g⟩
  have h11 := h10.trans (g.mono h10.size)
  clear g h10
  clear HT
  have HT := Lib.hid (TB.out _ h11)
  go_wp2_with fail
  (with_reducible refine (decodes_hit ⟨#[48, 47, 120, 47, 47]⟩ ⟨#[]⟩ 6 400 6 400 (by decide) chD10 rfl rfl _ HT.out).mono ?_); rintro e w12 ⟨rfl, g⟩
  have h12 := h11.trans (g.mono h11.size)
  clear g h11
  clear HT
  have HT := Lib.hid (TB.out _ h12)
  go_wp2_with fail
  (with_reducible refine (decodes_hit ⟨#[51, 47, 97, 98, 99, 100]⟩ ⟨#[]⟩ 7 400 7 400 (by decide) chD11 rfl rfl _ HT.out).mono ?_); rintro e w13 ⟨rfl, g⟩
  have h13 := h12.trans (g.mono h12.size)
  clear g h12
  clear HT
  have HS := Lib.hid (reads_z w13 3 [9] #[.int .i64 9] rfl)
  have g := (Below.refl w13.heap.size w13).alloc (Nat.le_refl _) (.cells #[.int .i64 9] 3)
  have hA := h13.trans (g.mono h13.size)
  have HT := Lib.hid (TB.out _ hA)
  clear g h13
  go_wp2_with fail
  (with_reducible refine (encodes_hit ⟨#[97, 98, 99]⟩ ⟨#[51, 47, 97, 98, 99, 47, 48, 47, 47]⟩ _ 1 1 [9] (by decide) (by decide) (by omega) (by unfold encOut; rw [if_neg (by decide), if_pos (by decide)]; rw [show ([9] : List Int).map Int.toNat = [9] from rfl]; exact congrArg (·, 0) chE1) _ HS.out HT.out).mono ?_); rintro e w14 ⟨rfl, g⟩
  have h14 := hA.trans (g.mono hA.size)
  clear g hA
  clear HS HT
  have HT := Lib.hid (TB.out _ h14)
  go_wp2_with fail
  (with_reducible refine (encodes_hit ⟨#[]⟩ ⟨#[48, 47, 47]⟩ none 0 0 [] (by decide) (by decide) (by omega) encK2 _ Reads.none_ HT.out).mono ?_); rintro e w15 ⟨rfl, g⟩
  have h15 := h14.trans (g.mono h14.size)
  clear g h14
  clear HT
  have HT := Lib.hid (TB.out _ h15)
  have AW := Lib.hid (awake10 _ HT.out)
  go_wp2_with fail
  (with_reducible refine (AW.out).mono ?_); rintro e w16 ⟨rfl, g⟩
  have h16 := h15.trans (g.mono h15.size)
  clear g h15
  clear HT AW
  go_wp2_with fail
  go_ret
  exact ⟨rfl, h16⟩
end Go.Proofs.YtkbihipgnlglbaaGreatDoor
