/-
  awake of the statements on responses: some examples of the chapter.
-/
import Derived.Test.YthhlnpfcpgfcfaaDoorRs9
import Derived.Test.YthhlnpfcpgfcfaaDoorT12
import Derived.Test.YthhlnpfcpgfcfaaDoorRt1
import Derived.Laws.StructEq
namespace Go.Proofs.YthhlnpfcpgfcfaaDoor
open Go.RowKit

theorem inFlt (a b c d : Int) (w : World) : (Op.equalIn 10000 33 (.agg #[.int .i64 a, .int .i64 b]) (.agg #[.int .i64 c, .int .i64 d])).run Tryd.prog w = .ok (a == c && b == d) w := by
  have u1 := Tryd.underlying3
  have u2 := Tryd.isAgg3
  have z3 := Tryd.sizeOf3
  have u4 := Tryd.underlying27
  have u5 := Tryd.isAgg27
  have z6 := Tryd.sizeOf27
  have f0 := Tryd.underlying33
  have f1 : Tryd.prog.underlying 33 = some (.struct (Tryd.prog.fieldsOf 33)) := by unfold Program.fieldsOf; rw [f0]
  rw [show (10000 : Nat) = 9999 + 1 from rfl, run_equalIn_struct _ _ _ _ _ f1 (by kernel_rfl)]
  unfold Program.fieldsOf
  rw [f0]
  go_simp
  by_cases h0 : a = c <;> by_cases h1 : b = d <;> simp [h0, h1]
theorem eqFlt (a b c d : Int) (w : World) : (binOp .eql 33 (.agg #[.int .i64 a, .int .i64 b]) (.agg #[.int .i64 c, .int .i64 d])).run Tryd.prog w = .ok (.bool (a == c && b == d)) w := by
  rw [run_eql_struct, inFlt]; rfl
theorem neFlt (a b c d : Int) (w : World) : (binOp .neq 33 (.agg #[.int .i64 a, .int .i64 b]) (.agg #[.int .i64 c, .int .i64 d])).run Tryd.prog w = .ok (.bool (!(a == c && b == d))) w := by
  rw [run_neq_struct, inFlt]; rfl
/-- the first example -/
def hiR : Rsp := ⟨200, [], [104, 105], false, false⟩
def hiB : List UInt8 := [72, 84, 84, 80, 47, 49, 46, 49, 32, 50, 48, 48, 32, 79, 75, 13, 10, 67, 111, 110, 116, 101, 110, 116, 45, 76, 101, 110, 103, 116, 104, 58, 32, 50, 13, 10, 13, 10, 104, 105]
theorem hi_check : checkR hiR = 0 := by decide +kernel
theorem hi_text : textOf hiR = hiB := by decide +kernel
theorem hi_parse : parseA false (hiB ++ [109, 111, 114, 101]) = (some (hiR, 40), 0) := by kernel_rfl
set_option maxRecDepth 100000 in
set_option maxHeartbeats 4000000 in
theorem awake12 : Awake12 := by
  intro w hT
  have cT := pTextR hiR none 0 0 w Reads.none_ (by omega) (fun f hf => by cases hf) (by decide) hT.r
  rw [hi_text, hi_check] at cT
  have cT2 : Calls Tryd.prog 12 #[.agg #[.int .i64 200, .slice none 0 0, .string ⟨#[104, 105]⟩, .bool false, .bool false]] w fun e w' => e = .returned (.tuple #[.string ⟨#[72, 84, 84, 80, 47, 49, 46, 49, 32, 50, 48, 48, 32, 79, 75, 13, 10, 67, 111, 110, 116, 101, 110, 116, 45, 76, 101, 110, 103, 116, 104, 58, 32, 50, 13, 10, 13, 10, 104, 105]⟩, .int .i64 0]) ∧ Below w.heap.size w w' := cT
  have cP : ∀ X, Tab12 X → Calls Tryd.prog 15 #[.string ⟨#[72, 84, 84, 80, 47, 49, 46, 49, 32, 50, 48, 48, 32, 79, 75, 13, 10, 67, 111, 110, 116, 101, 110, 116, 45, 76, 101, 110, 103, 116, 104, 58, 32, 50, 13, 10, 13, 10, 104, 105, 109, 111, 114, 101]⟩, .bool false] X fun e w' => ∃ A cap, e = .returned (.tuple #[.agg #[.int .i64 200, .slice A 0 cap, .string ⟨#[104, 105]⟩, .bool false, .bool false], .int .i64 40, .agg #[.int .i64 0, .int .i64 0]]) ∧ Reads w' w'.heap.size 2 A 0 (fldsC []) ∧ 0 ≤ cap ∧ Below X.heap.size X w' := by
    intro X hX
    have := pParse (hiB ++ [109, 111, 114, 101]) false X (by decide) hX.r hX.m hX.e
    have e : ParsePost false (hiB ++ [109, 111, 114, 101]) X = fun e w' => ∃ A cap, e = .returned (.tuple #[rspV hiR A 0 cap, .int .i64 ((40 : Nat) : Int), .agg #[.int .i64 0, .int .i64 0]]) ∧ Reads w' w'.heap.size 2 A 0 (fldsC []) ∧ 0 ≤ cap ∧ Below X.heap.size X w' := by
      funext e w'; unfold ParsePost; rw [hi_parse]; rfl
    rw [e] at this
    exact this
  have HT := Lib.hid hT
  have CT := Lib.hid cT2
  have CP := Lib.hid cP
  clear cT cT2 cP hT
  go_enter Tryd.func11, Tryd.ntmps11
  go_wp2_with fail
  (with_reducible refine (CT.out).mono ?_); rintro e w1 ⟨rfl, g1⟩
  have CP1 := Lib.hid (CP.out w1 (HT.out.below g1))
  have G1 := Lib.hid g1
  clear g1 CT CP
  go_wp2_with fail
  (with_reducible refine (CP1.out).mono ?_); rintro e w2 ⟨A, cap, rfl, hr, _, g2⟩
  have b3 : Below w2.heap.size w2 ((w2.alloc (.cells #[.int .i64 200, .slice A 0 cap, .string ⟨#[104, 105]⟩, .bool false, .bool false] 24)).alloc (.cells #[.int .i64 0, .int .i64 0] 33)) := ((Below.refl _ _).alloc (Nat.le_refl _) _).alloc (by simp) _
  have cS : Calls Tryd.prog 16 #[.agg #[.int .i64 200, .slice A 0 cap, .string ⟨#[104, 105]⟩, .bool false, .bool false], .agg #[.int .i64 200, .slice none 0 0, .string ⟨#[104, 105]⟩, .bool false, .bool false]] ((w2.alloc (.cells #[.int .i64 200, .slice A 0 cap, .string ⟨#[104, 105]⟩, .bool false, .bool false] 24)).alloc (.cells #[.int .i64 0, .int .i64 0] 33)) fun e w' => e = .returned (.bool true) ∧ Below ((w2.alloc (.cells #[.int .i64 200, .slice A 0 cap, .string ⟨#[104, 105]⟩, .bool false, .bool false] 24)).alloc (.cells #[.int .i64 0, .int .i64 0] 33)).heap.size ((w2.alloc (.cells #[.int .i64 200, .slice A 0 cap, .string ⟨#[104, 105]⟩, .bool false, .bool false] 24)).alloc (.cells #[.int .i64 0, .int .i64 0] 33)) w' :=
    pSame12 hiR A none 0 0 cap 0 _ ((hr.below b3).more b3.size) Reads.none_ (by omega)
  have kF := Blk.new (w2.alloc (.cells #[.int .i64 200, .slice A 0 cap, .string ⟨#[104, 105]⟩, .bool false, .bool false] 24)) 33 #[.int .i64 0, .int .i64 0]
  rw [show (w2.alloc (.cells #[.int .i64 200, .slice A 0 cap, .string ⟨#[104, 105]⟩, .bool false, .bool false] 24)).heap.size = w2.heap.size + 1 by simp] at kF
  have CS := Lib.hid cS
  have KF := Lib.hid kF
  have G3 := Lib.hid (G1.out.trans (g2.mono G1.out.size) |>.trans (b3.mono (by have := G1.out.size; have := g2.size; omega)))
  have hE := eqFlt 0 0 0 0
  clear cS kF g2 b3 hr CP1
  go_wp2_with fail
  (with_reducible refine (CS.out).mono ?_); rintro e w4 ⟨rfl, g4⟩
  have k4 := KF.out.below g4 KF.out.lt
  have f0 : w4.cell? ⟨w2.heap.size + 1, 0, none⟩ = some (.int .i64 0) := k4.cell 0
  have f1 : w4.cell? ⟨w2.heap.size + 1, 1, none⟩ = some (.int .i64 0) := k4.cell 1
  have G4 := Lib.hid (G3.out.trans (g4.mono G3.out.size))
  clear g4 k4 CS
  go_wp2_with fail
  go_ret
  exact ⟨rfl, G4.out⟩
end Go.Proofs.YthhlnpfcpgfcfaaDoor
