/-
  waypostlaw12.RespondKnown: true.
-/
import Derived.Test.YthhlnpfcpgfcfaaDoorKr
import Derived.Deep.RegionHeld3
namespace Go.Proofs.YthhlnpfcpgfcfaaDoor
open Go.RowKit

def movedB : List UInt8 := textR movedR
theorem moved_check : checkR movedR = 0 := by decide +kernel
theorem moved_text : textOf movedR = [72, 84, 84, 80, 47, 49, 46, 49, 32, 51, 48, 49, 32, 77, 111, 118, 101, 100, 32, 80, 101, 114, 109, 97, 110, 101, 110, 116, 108, 121, 13, 10, 76, 111, 99, 97, 116, 105, 111, 110, 58, 32, 47, 98, 13, 10, 67, 111, 110, 116, 101, 110, 116, 45, 76, 101, 110, 103, 116, 104, 58, 32, 51, 13, 10, 67, 111, 110, 110, 101, 99, 116, 105, 111, 110, 58, 32, 99, 108, 111, 115, 101, 13, 10, 13, 10] := by decide +kernel
theorem hi_parse0 : parseA false hiB = (some (hiR, 40), 0) := by kernel_rfl
theorem bad1 : parseA false (hiB.take 39) = (none, 39) := by kernel_rfl
theorem bad2 : parseA false ([72, 84, 84, 80, 47, 49, 46, 48] ++ hiB.drop 8) = (none, 0) := by kernel_rfl
theorem bad3 : parseA false (hiB.take 17 ++ [99, 111, 110, 116, 101, 110, 116, 45, 108, 101, 110, 103, 116, 104] ++ hiB.drop 31) = (none, 17) := by kernel_rfl
def zeros33 : Array Value := Array.replicate 66 (.string ⟨#[]⟩)
theorem zeros33_fld : zeros33.toList = fldsC (List.replicate 33 ([], [])) := by kernel_rfl
theorem make33 (w : World) : (Instr.makeSlice 22 (.int .i64 33) (.int .i64 33)).run Tryd.prog w = .ok (.slice (some ⟨w.heap.size, 0, none⟩) 33 33) (w.alloc (.cells zeros33 47)) := by kernel_rfl
theorem reads33 (w : World) : Reads (w.alloc (.cells zeros33 47)) (w.alloc (.cells zeros33 47)).heap.size 2 (some ⟨w.heap.size, 0, none⟩) 33 (fldsC (List.replicate 33 ([], []))) :=
  reads_newF12 w 47 (List.replicate 33 ([], [])) zeros33 zeros33_fld
set_option maxRecDepth 100000 in
set_option maxHeartbeats 8000000 in
theorem RespondKnown_true (w : World) (hT : Tab12 w) : Calls Tryd.prog 5 #[] w fun e w' => e = .returned (.bool true) ∧ Below w.heap.size w w' := by
  have HT := Lib.hid hT
  clear hT
  have CM := Lib.hid (pMoved w)
  go_enter Tryd.func5, Tryd.ntmps5
  go_wp2_with fail
  (with_reducible refine (CM.out).mono ?_); rintro e w1 ⟨A, rfl, hrA, g1⟩
  have cT := pTextR movedR A 1 1 w1 hrA (by omega) (fun f hf => by simp [movedR] at hf; subst hf; simp) (by decide) (HT.out.below g1).r
  rw [moved_check, moved_text] at cT
  have cT2 : ∀ M, bs [72, 84, 84, 80, 47, 49, 46, 49, 32, 51, 48, 49, 32, 77, 111, 118, 101, 100, 32, 80, 101, 114, 109, 97, 110, 101, 110, 116, 108, 121, 13, 10, 76, 111, 99, 97, 116, 105, 111, 110, 58, 32, 47, 98, 13, 10, 67, 111, 110, 116, 101, 110, 116, 45, 76, 101, 110, 103, 116, 104, 58, 32, 51, 13, 10, 67, 111, 110, 110, 101, 99, 116, 105, 111, 110, 58, 32, 99, 108, 111, 115, 101, 13, 10, 13, 10] = M → Calls Tryd.prog 12 #[.agg #[.int .i64 301, .slice A 1 1, .string ⟨#[97, 98, 99]⟩, .bool true, .bool true]] w1 fun e w' => e = .returned (.tuple #[.string M, .int .i64 0]) ∧ Below w1.heap.size w1 w' := fun M hM => by rw [← hM]; exact cT
  obtain ⟨M, hM⟩ : ∃ M, bs [72, 84, 84, 80, 47, 49, 46, 49, 32, 51, 48, 49, 32, 77, 111, 118, 101, 100, 32, 80, 101, 114, 109, 97, 110, 101, 110, 116, 108, 121, 13, 10, 76, 111, 99, 97, 116, 105, 111, 110, 58, 32, 47, 98, 13, 10, 67, 111, 110, 116, 101, 110, 116, 45, 76, 101, 110, 103, 116, 104, 58, 32, 51, 13, 10, 67, 111, 110, 110, 101, 99, 116, 105, 111, 110, 58, 32, 99, 108, 111, 115, 101, 13, 10, 13, 10] = M := ⟨_, rfl⟩
  have CT := Lib.hid (cT2 M hM)
  have HM := Lib.hid hM
  have G1 := Lib.hid g1
  clear cT cT2 hM g1 CM hrA
  go_wp2_with fail
  (with_reducible refine (CT.out).mono ?_); rintro e w2 ⟨rfl, g2⟩
  have hiE : ParsePost false hiB w2 = fun e w' => ∃ A cap, e = .returned (.tuple #[rspV hiR A 0 cap, .int .i64 ((40 : Nat) : Int), .agg #[.int .i64 0, .int .i64 0]]) ∧ Reads w' w'.heap.size 2 A 0 (fldsC []) ∧ 0 ≤ cap ∧ Below w2.heap.size w2 w' := by
    funext e w'; unfold ParsePost; rw [hi_parse0]; rfl
  have cP := pParse hiB false w2 (by decide) (HT.out.below (G1.out.trans (g2.mono G1.out.size))).r (HT.out.below (G1.out.trans (g2.mono G1.out.size))).m (HT.out.below (G1.out.trans (g2.mono G1.out.size))).e
  rw [hiE] at cP
  have cP2 : Calls Tryd.prog 15 #[.string ⟨#[72, 84, 84, 80, 47, 49, 46, 49, 32, 50, 48, 48, 32, 79, 75, 13, 10, 67, 111, 110, 116, 101, 110, 116, 45, 76, 101, 110, 103, 116, 104, 58, 32, 50, 13, 10, 13, 10, 104, 105]⟩, .bool false] w2 fun e w' => ∃ A cap, e = .returned (.tuple #[.agg #[.int .i64 200, .slice A 0 cap, .string ⟨#[104, 105]⟩, .bool false, .bool false], .int .i64 40, .agg #[.int .i64 0, .int .i64 0]]) ∧ Reads w' w'.heap.size 2 A 0 (fldsC []) ∧ 0 ≤ cap ∧ Below w2.heap.size w2 w' := cP
  have CP := Lib.hid cP2
  have G2 := Lib.hid (G1.out.trans (g2.mono G1.out.size))
  clear hiE cP cP2 g2 CT G1
  go_wp2_with fail
  (with_reducible refine (CP.out).mono ?_); rintro e w3 ⟨A2, cap, rfl, hr, _, g3⟩
  have kr := (Blk.new w3 24 #[.int .i64 200, .slice A2 0 cap, .string ⟨#[104, 105]⟩, .bool false, .bool false]).alloc (.cells #[.int .i64 0, .int .i64 0] 33)
  have kf := Blk.new (w3.alloc (.cells #[.int .i64 200, .slice A2 0 cap, .string ⟨#[104, 105]⟩, .bool false, .bool false] 24)) 33 #[.int .i64 0, .int .i64 0]
  rw [show (w3.alloc (.cells #[.int .i64 200, .slice A2 0 cap, .string ⟨#[104, 105]⟩, .bool false, .bool false] 24)).heap.size = w3.heap.size + 1 by simp] at kf
  have g4 : Below w3.heap.size w3 ((w3.alloc (.cells #[.int .i64 200, .slice A2 0 cap, .string ⟨#[104, 105]⟩, .bool false, .bool false] 24)).alloc (.cells #[.int .i64 0, .int .i64 0] 33)) := ((Below.refl _ _).alloc (Nat.le_refl _) _).alloc (by simp) _
  have KR := Lib.hid kr
  have KF := Lib.hid kf
  have HR := Lib.hid hr
  have G4 := Lib.hid g4
  have G3 := Lib.hid (G2.out.trans (g3.mono G2.out.size))
  clear kr kf hr g4 g3 G2 CP
  go_wp2_with fail
  generalize ((w3.alloc (.cells #[.int .i64 200, .slice A2 0 cap, .string ⟨#[104, 105]⟩, .bool false, .bool false] 24)).alloc (.cells #[.int .i64 0, .int .i64 0] 33)) = W4 at KR KF G4 ⊢
  have a0 : W4.cell? ⟨w3.heap.size, 0, none⟩ = some (.int .i64 200) := KR.out.cell 0
  have a1 : W4.cell? ⟨w3.heap.size, 1, none⟩ = some (.slice A2 0 cap) := KR.out.cell 1
  have a2 : W4.cell? ⟨w3.heap.size, 2, none⟩ = some (.string ⟨#[104, 105]⟩) := KR.out.cell 2
  have a3 : W4.cell? ⟨w3.heap.size, 3, none⟩ = some (.bool false) := KR.out.cell 3
  have a4 : W4.cell? ⟨w3.heap.size, 4, none⟩ = some (.bool false) := KR.out.cell 4
  have b0 : W4.cell? ⟨w3.heap.size + 1, 0, none⟩ = some (.int .i64 0) := KF.out.cell 0
  have b1 : W4.cell? ⟨w3.heap.size + 1, 1, none⟩ = some (.int .i64 0) := KF.out.cell 1
  have kc : ∀ w', Below W4.heap.size W4 w' → w'.cell? ⟨w3.heap.size, 0, none⟩ = some (.int .i64 200) ∧ w'.cell? ⟨w3.heap.size, 1, none⟩ = some (.slice A2 0 cap) ∧ w'.cell? ⟨w3.heap.size, 2, none⟩ = some (.string ⟨#[104, 105]⟩) ∧ w'.cell? ⟨w3.heap.size, 3, none⟩ = some (.bool false) ∧ w'.cell? ⟨w3.heap.size, 4, none⟩ = some (.bool false) ∧ w'.cell? ⟨w3.heap.size + 1, 0, none⟩ = some (.int .i64 0) ∧ w'.cell? ⟨w3.heap.size + 1, 1, none⟩ = some (.int .i64 0) := fun w' hb => by
    have x := KR.out.below hb KR.out.lt
    have y := KF.out.below hb KF.out.lt
    exact ⟨x.cell 0, x.cell 1, x.cell 2, x.cell 3, x.cell 4, y.cell 0, y.cell 1⟩
  have kt : ∀ X, Hid (Below W4.heap.size W4 X) → Tab12 X := fun X hX => HT.out.below ((G3.out.trans (G4.out.mono G3.out.size)).trans (hX.out.mono (Nat.le_trans G3.out.size G4.out.size)))
  have kS : ∀ X, Hid (Below W4.heap.size W4 X) → Calls Tryd.prog 16 #[.agg #[.int .i64 200, .slice A2 0 cap, .string ⟨#[104, 105]⟩, .bool false, .bool false], .agg #[.int .i64 200, .slice none 0 0, .string ⟨#[104, 105]⟩, .bool false, .bool false]] X fun e w' => e = .returned (.bool true) ∧ Hid (Below W4.heap.size W4 w') ∧ w'.cell? ⟨w3.heap.size, 0, none⟩ = some (.int .i64 200) ∧ w'.cell? ⟨w3.heap.size, 1, none⟩ = some (.slice A2 0 cap) ∧ w'.cell? ⟨w3.heap.size, 2, none⟩ = some (.string ⟨#[104, 105]⟩) ∧ w'.cell? ⟨w3.heap.size, 3, none⟩ = some (.bool false) ∧ w'.cell? ⟨w3.heap.size, 4, none⟩ = some (.bool false) ∧ w'.cell? ⟨w3.heap.size + 1, 0, none⟩ = some (.int .i64 0) ∧ w'.cell? ⟨w3.heap.size + 1, 1, none⟩ = some (.int .i64 0) := fun X hX =>
    (pSame12 hiR A2 none 0 0 cap 0 X (((HR.out.below (G4.out)).more G4.out.size |>.below hX.out).more hX.out.size) Reads.none_ (by omega)).mono fun e w' ⟨he, g⟩ => ⟨he, hide (hX.out.trans (g.mono hX.out.size)), kc _ (hX.out.trans (g.mono hX.out.size))⟩
  have kF : ∀ (s : List UInt8) (k : Nat), parseA false s = (none, k) → s.length ≤ 1000000 → ∀ X, Hid (Below W4.heap.size W4 X) → Calls Tryd.prog 19 #[.string (bs s), .int .i64 (k : Int)] X fun e w' => e = .returned (.bool true) ∧ Hid (Below W4.heap.size W4 w') ∧ w'.cell? ⟨w3.heap.size, 0, none⟩ = some (.int .i64 200) ∧ w'.cell? ⟨w3.heap.size, 1, none⟩ = some (.slice A2 0 cap) ∧ w'.cell? ⟨w3.heap.size, 2, none⟩ = some (.string ⟨#[104, 105]⟩) ∧ w'.cell? ⟨w3.heap.size, 3, none⟩ = some (.bool false) ∧ w'.cell? ⟨w3.heap.size, 4, none⟩ = some (.bool false) ∧ w'.cell? ⟨w3.heap.size + 1, 0, none⟩ = some (.int .i64 0) ∧ w'.cell? ⟨w3.heap.size + 1, 1, none⟩ = some (.int .i64 0) := fun s k h1 h2 X hX =>
    (pFaulty s k X h1 h2 (kt X hX)).mono fun e w' ⟨he, g⟩ => ⟨he, hide (hX.out.trans (g.mono hX.out.size)), kc _ (hX.out.trans (g.mono hX.out.size))⟩
  have k1 : ∀ X, Hid (Below W4.heap.size W4 X) → Calls Tryd.prog 19 #[.string ((⟨#[72, 84, 84, 80, 47, 49, 46, 49, 32, 50, 48, 48, 32, 79, 75, 13, 10, 67, 111, 110, 116, 101, 110, 116, 45, 76, 101, 110, 103, 116, 104, 58, 32, 50, 13, 10, 13, 10, 104, 105]⟩ : ByteArray).extract 0 39), .int .i64 39] X fun e w' => e = .returned (.bool true) ∧ Hid (Below W4.heap.size W4 w') ∧ w'.cell? ⟨w3.heap.size, 0, none⟩ = some (.int .i64 200) ∧ w'.cell? ⟨w3.heap.size, 1, none⟩ = some (.slice A2 0 cap) ∧ w'.cell? ⟨w3.heap.size, 2, none⟩ = some (.string ⟨#[104, 105]⟩) ∧ w'.cell? ⟨w3.heap.size, 3, none⟩ = some (.bool false) ∧ w'.cell? ⟨w3.heap.size, 4, none⟩ = some (.bool false) ∧ w'.cell? ⟨w3.heap.size + 1, 0, none⟩ = some (.int .i64 0) ∧ w'.cell? ⟨w3.heap.size + 1, 1, none⟩ = some (.int .i64 0) := kF _ 39 bad1 (by decide)
  have k2 : ∀ X, Hid (Below W4.heap.size W4 X) → Calls Tryd.prog 19 #[.string ((⟨#[72, 84, 84, 80, 47, 49, 46, 48]⟩ : ByteArray) ++ (⟨#[72, 84, 84, 80, 47, 49, 46, 49, 32, 50, 48, 48, 32, 79, 75, 13, 10, 67, 111, 110, 116, 101, 110, 116, 45, 76, 101, 110, 103, 116, 104, 58, 32, 50, 13, 10, 13, 10, 104, 105]⟩ : ByteArray).extract 8 40), .int .i64 0] X fun e w' => e = .returned (.bool true) ∧ Hid (Below W4.heap.size W4 w') ∧ w'.cell? ⟨w3.heap.size, 0, none⟩ = some (.int .i64 200) ∧ w'.cell? ⟨w3.heap.size, 1, none⟩ = some (.slice A2 0 cap) ∧ w'.cell? ⟨w3.heap.size, 2, none⟩ = some (.string ⟨#[104, 105]⟩) ∧ w'.cell? ⟨w3.heap.size, 3, none⟩ = some (.bool false) ∧ w'.cell? ⟨w3.heap.size, 4, none⟩ = some (.bool false) ∧ w'.cell? ⟨w3.heap.size + 1, 0, none⟩ = some (.int .i64 0) ∧ w'.cell? ⟨w3.heap.size + 1, 1, none⟩ = some (.int .i64 0) := kF _ 0 bad2 (by decide)
  have k3 : ∀ X, Hid (Below W4.heap.size W4 X) → Calls Tryd.prog 19 #[.string ((⟨#[72, 84, 84, 80, 47, 49, 46, 49, 32, 50, 48, 48, 32, 79, 75, 13, 10, 67, 111, 110, 116, 101, 110, 116, 45, 76, 101, 110, 103, 116, 104, 58, 32, 50, 13, 10, 13, 10, 104, 105]⟩ : ByteArray).extract 0 17 ++ (⟨#[99, 111, 110, 116, 101, 110, 116, 45, 108, 101, 110, 103, 116, 104]⟩ : ByteArray) ++ (⟨#[72, 84, 84, 80, 47, 49, 46, 49, 32, 50, 48, 48, 32, 79, 75, 13, 10, 67, 111, 110, 116, 101, 110, 116, 45, 76, 101, 110, 103, 116, 104, 58, 32, 50, 13, 10, 13, 10, 104, 105]⟩ : ByteArray).extract 31 40), .int .i64 17] X fun e w' => e = .returned (.bool true) ∧ Hid (Below W4.heap.size W4 w') ∧ w'.cell? ⟨w3.heap.size, 0, none⟩ = some (.int .i64 200) ∧ w'.cell? ⟨w3.heap.size, 1, none⟩ = some (.slice A2 0 cap) ∧ w'.cell? ⟨w3.heap.size, 2, none⟩ = some (.string ⟨#[104, 105]⟩) ∧ w'.cell? ⟨w3.heap.size, 3, none⟩ = some (.bool false) ∧ w'.cell? ⟨w3.heap.size, 4, none⟩ = some (.bool false) ∧ w'.cell? ⟨w3.heap.size + 1, 0, none⟩ = some (.int .i64 0) ∧ w'.cell? ⟨w3.heap.size + 1, 1, none⟩ = some (.int .i64 0) := kF _ 17 bad3 (by decide)
  have KS := Lib.hid kS
  have K1 := Lib.hid k1
  have K2 := Lib.hid k2
  have K3 := Lib.hid k3
  have hN := neFlt 0 0 0 0
  have hq : (M.toList == [72, 84, 84, 80, 47, 49, 46, 49, 32, 51, 48, 49, 32, 77, 111, 118, 101, 100, 32, 80, 101, 114, 109, 97, 110, 101, 110, 116, 108, 121, 13, 10, 76, 111, 99, 97, 116, 105, 111, 110, 58, 32, 47, 98, 13, 10, 67, 111, 110, 116, 101, 110, 116, 45, 76, 101, 110, 103, 116, 104, 58, 32, 51, 13, 10, 67, 111, 110, 110, 101, 99, 116, 105, 111, 110, 58, 32, 99, 108, 111, 115, 101, 13, 10, 13, 10]) = true := by rw [← HM.out]; exact lit_t rfl
  have hd0 : Hid (Below W4.heap.size W4 W4.drew) := hide (Below.refl _ _).drew
  clear kS kF k1 k2 k3 kc kt
  go_region_held3 (fun w' => w'.cell? ⟨w3.heap.size, 0, none⟩ = some (.int .i64 200) ∧ w'.cell? ⟨w3.heap.size, 1, none⟩ = some (.slice A2 0 cap) ∧ w'.cell? ⟨w3.heap.size, 2, none⟩ = some (.string ⟨#[104, 105]⟩) ∧ w'.cell? ⟨w3.heap.size, 3, none⟩ = some (.bool false) ∧ w'.cell? ⟨w3.heap.size, 4, none⟩ = some (.bool false) ∧ w'.cell? ⟨w3.heap.size + 1, 0, none⟩ = some (.int .i64 0) ∧ w'.cell? ⟨w3.heap.size + 1, 1, none⟩ = some (.int .i64 0)) (go_keep) (first
    | (go_at_call 16; (with_reducible refine (KS.out _ hd0).mono ?_); rintro r v1 ⟨rfl, h1, p0, p1, p2, p3, p4, q0, q1⟩)
    | (go_at_call 19; (with_reducible refine (K1.out _ h1).mono ?_); rintro r v2 ⟨rfl, h2, p0, p1, p2, p3, p4, q0, q1⟩)
    | (go_at_call 19; (with_reducible refine (K2.out _ h2).mono ?_); rintro r v3 ⟨rfl, h3, p0, p1, p2, p3, p4, q0, q1⟩)
    | (go_at_call 19; (with_reducible refine (K3.out _ h3).mono ?_); rintro r v4 ⟨rfl, h4, p0, p1, p2, p3, p4, q0, q1⟩))
  have G5 : Hid (Below w.heap.size w v4) := hide ((G3.out.trans (G4.out.mono G3.out.size)).trans (h4.out.mono (Nat.le_trans G3.out.size G4.out.size)))
  have kM : ∀ (f : List UInt8 × List UInt8) (k : Nat), mayR f = k → f.1.length ≤ 1000000 → f.2.length ≤ 1000000 → ∀ X, Hid (Below w.heap.size w X) → Calls Tryd.prog 20 #[.agg #[.string (bs f.1), .string (bs f.2)]] X fun e w' => e = .returned (.int .i64 (k : Nat)) ∧ Hid (Below w.heap.size w w') := fun f k h0 h1 h2 X hX => by
    subst h0
    exact (pMayR f X h1 h2 (HT.out.below hX.out).r.spaces).mono fun e w' ⟨he, g⟩ => ⟨he, hide (hX.out.trans (g.mono hX.out.size))⟩
  have m1 : ∀ X, Hid (Below w.heap.size w X) → Calls Tryd.prog 20 #[.agg #[.string ⟨#[99, 111, 110, 116, 101, 110, 116, 45, 108, 101, 110, 103, 116, 104]⟩, .string ⟨#[51]⟩]] X fun e w' => e = .returned (.int .i64 11) ∧ Hid (Below w.heap.size w w') := kM ([99, 111, 110, 116, 101, 110, 116, 45, 108, 101, 110, 103, 116, 104], [51]) 11 (by decide +kernel) (by decide) (by decide)
  have M1 := Lib.hid m1
  have m2 : ∀ X, Hid (Below w.heap.size w X) → Calls Tryd.prog 20 #[.agg #[.string ⟨#[97, 32, 98]⟩, .string ⟨#[99]⟩]] X fun e w' => e = .returned (.int .i64 11) ∧ Hid (Below w.heap.size w w') := kM ([97, 32, 98], [99]) 11 (by decide +kernel) (by decide) (by decide)
  have M2 := Lib.hid m2
  have m3 : ∀ X, Hid (Below w.heap.size w X) → Calls Tryd.prog 20 #[.agg #[.string ⟨#[97]⟩, .string ⟨#[9]⟩]] X fun e w' => e = .returned (.int .i64 3) ∧ Hid (Below w.heap.size w w') := kM ([97], [9]) 3 (by decide +kernel) (by decide) (by decide)
  have M3 := Lib.hid m3
  have m4 : ∀ X, Hid (Below w.heap.size w X) → Calls Tryd.prog 20 #[.agg #[.string ⟨#[97]⟩, .string ⟨#[32]⟩]] X fun e w' => e = .returned (.int .i64 3) ∧ Hid (Below w.heap.size w w') := kM ([97], [32]) 3 (by decide +kernel) (by decide) (by decide)
  have M4 := Lib.hid m4
  have c1 : ∀ X, Hid (Below w.heap.size w X) → Calls Tryd.prog 14 #[.agg #[.int .i64 201, .slice none 0 0, .string ⟨#[]⟩, .bool false, .bool false]] X fun e w' => e = .returned (.int .i64 10) ∧ Hid (Below w.heap.size w w') := fun X hX => by
    have := pCheckR ⟨201, [], [], false, false⟩ none 0 0 X Reads.none_ (by omega) (fun f hf => by cases hf) (by decide) (HT.out.below hX.out).r
    rw [show checkR ⟨201, [], [], false, false⟩ = 10 by decide +kernel] at this
    exact this.mono fun e w' ⟨he, g⟩ => ⟨he, hide (hX.out.trans (g.mono hX.out.size))⟩
  have c2 : ∀ X g, Hid (Below w.heap.size w X) → Reads X X.heap.size 2 (some ⟨g, 0, none⟩) 33 (fldsC (List.replicate 33 ([], []))) → Calls Tryd.prog 14 #[.agg #[.int .i64 200, .slice (some ⟨g, 0, none⟩) 33 33, .string ⟨#[]⟩, .bool false, .bool false]] X fun e w' => e = .returned (.int .i64 5) ∧ Hid (Below w.heap.size w w') := fun X g hX hr => by
    have := pCheckR ⟨200, List.replicate 33 ([], []), [], false, false⟩ (some ⟨g, 0, none⟩) 33 33 X hr (by omega) (fun f hf => by rw [(List.mem_replicate.1 hf).2]; simp) (by decide) (HT.out.below hX.out).r
    rw [show checkR ⟨200, List.replicate 33 ([], []), [], false, false⟩ = 5 by decide +kernel] at this
    exact this.mono fun e w' ⟨he, g⟩ => ⟨he, hide (hX.out.trans (g.mono hX.out.size))⟩
  have C1 := Lib.hid c1
  have C2 := Lib.hid c2
  have CA := Lib.hid (fun X (hX : Hid (Below w.heap.size w X)) => awake12 X (HT.out.below hX.out))
  clear kM m1 m2 m3 m4 c1 c2 p0 p1 p2 p3 p4 q0 q1 KS K1 K2 K3 KR KF HR G4 G3 hq hN h4 hd0 HT
  go_wp2_with (first | (go_at_call 20; (with_reducible refine (M1.out _ (by assumption)).mono ?_); rintro e w5 ⟨rfl, h5⟩) | (go_at_call 20; (with_reducible refine (M2.out _ (by assumption)).mono ?_); rintro e w6 ⟨rfl, h6⟩) | (go_at_call 20; (with_reducible refine (M3.out _ (by assumption)).mono ?_); rintro e w7 ⟨rfl, h7⟩) | (go_at_call 20; (with_reducible refine (M4.out _ (by assumption)).mono ?_); rintro e w8 ⟨rfl, h8⟩))
  (with_reducible refine (C1.out _ (hide (h8.out.alloc h8.out.size _))).mono ?_); rintro e w9 ⟨rfl, h9⟩
  have hmk := make33
  go_wp2_with fail
  (with_reducible refine (C2.out _ _ (hide (h9.out.alloc h9.out.size _)) (reads33 w9)).mono ?_); rintro e w10 ⟨rfl, h10⟩
  go_wp2_with fail
  (with_reducible refine (CA.out _ h10).mono ?_); rintro e w11 ⟨rfl, g11⟩
  go_wp2_with fail
  go_ret
  exact ⟨rfl, h10.out.trans (g11.mono h10.out.size)⟩
end Go.Proofs.YthhlnpfcpgfcfaaDoor
