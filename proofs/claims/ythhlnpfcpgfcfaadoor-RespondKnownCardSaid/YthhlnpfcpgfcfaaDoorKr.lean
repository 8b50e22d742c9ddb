/-
  RespondKnown's own helpers: moved and faulty.
-/
import Derived.Test.YthhlnpfcpgfcfaaDoorAw12
namespace Go.Proofs.YthhlnpfcpgfcfaaDoor
open Go.RowKit

theorem reads_newF12 (w : World) (t : TypeId) (xs : List Fld) (cs : Array Value) (h : cs.toList = fldsC xs) : Reads (w.alloc (.cells cs t)) (w.alloc (.cells cs t)).heap.size 2 (some ⟨w.heap.size, 0, none⟩) xs.length (fldsC xs) := by
  refine ⟨by rw [fldsC_len], fun _ => ⟨_, rfl, by simp, fun j u hu => ?_⟩⟩
  rw [Addr.add_lit, Nat.zero_add, (Blk.new w t cs).cell j]
  rw [← h] at hu
  simpa using hu
/-- the second example -/
def movedR : Rsp := ⟨301, [([76, 111, 99, 97, 116, 105, 111, 110], [47, 98])], [97, 98, 99], true, true⟩
set_option maxRecDepth 100000 in
set_option maxHeartbeats 1000000 in
theorem pMoved (w : World) : Calls Tryd.prog 18 #[] w fun e w' => ∃ A, e = .returned (.agg #[.int .i64 301, .slice A 1 1, .string ⟨#[97, 98, 99]⟩, .bool true, .bool true]) ∧ Reads w' w'.heap.size 2 A 1 (fldsC movedR.flds) ∧ Below w.heap.size w w' := by
  have k0 := (Blk.new w 24 #[.int .i64 301, .slice (some ⟨w.heap.size + 1, 0, none⟩) 1 1, .string ⟨#[97, 98, 99]⟩, .bool true, .bool true]).alloc (.cells #[.string ⟨#[76, 111, 99, 97, 116, 105, 111, 110]⟩, .string ⟨#[47, 98]⟩] 47)
  have r1 := reads_newF12 (w.alloc (.cells #[.int .i64 301, .slice (some ⟨w.heap.size + 1, 0, none⟩) 1 1, .string ⟨#[97, 98, 99]⟩, .bool true, .bool true] 24)) 47 movedR.flds #[.string ⟨#[76, 111, 99, 97, 116, 105, 111, 110]⟩, .string ⟨#[47, 98]⟩] rfl
  rw [show (w.alloc (.cells #[.int .i64 301, .slice (some ⟨w.heap.size + 1, 0, none⟩) 1 1, .string ⟨#[97, 98, 99]⟩, .bool true, .bool true] 24)).heap.size = w.heap.size + 1 by simp] at r1
  have hB : Below w.heap.size w ((w.alloc (.cells #[.int .i64 301, .slice (some ⟨w.heap.size + 1, 0, none⟩) 1 1, .string ⟨#[97, 98, 99]⟩, .bool true, .bool true] 24)).alloc (.cells #[.string ⟨#[76, 111, 99, 97, 116, 105, 111, 110]⟩, .string ⟨#[47, 98]⟩] 47)) := ((Below.refl _ _).alloc (Nat.le_refl _) _).alloc (by simp) _
  have K0 := Lib.hid k0
  have HB := Lib.hid hB
  have R1 := Lib.hid r1
  clear k0 hB r1
  go_enter Tryd.func18, Tryd.ntmps18
  go_wp2_with fail
  refine bodyPost_ret (results_cell1 (p := 0) (ty := 24) (by kernel_rfl) _ _ w.heap.size _ rfl (ld5' K0.out rfl)) rfl ?_
  exact ⟨_, rfl, R1.out, HB.out⟩
theorem fault_none {s : List UInt8} {k : Nat} {w : World} (h : parseA false s = (none, k)) : ParsePost false s w = fun e w' => e = .returned (.tuple #[rspV noRsp none 0 0, .int .i64 0, .agg #[.int .i64 3, .int .i64 (k : Int)]]) ∧ Below w.heap.size w w' := by
  funext e w'; unfold ParsePost; rw [h]
set_option maxRecDepth 100000 in
set_option maxHeartbeats 2000000 in
theorem pFaulty (s : List UInt8) (k : Nat) (w : World) (hp : parseA false s = (none, k)) (hs : s.length ≤ 1000000) (hT : Tab12 w) :
    Calls Tryd.prog 19 #[.string (bs s), .int .i64 (k : Int)] w fun e w' => e = .returned (.bool true) ∧ Below w.heap.size w w' := by
  have cP := pParse s false w hs hT.r hT.m hT.e
  rw [fault_none hp] at cP
  have eR : rspV noRsp none 0 0 = .agg #[.int .i64 0, .slice none 0 0, .string ⟨#[]⟩, .bool false, .bool false] := rfl
  rw [eR] at cP
  have CP := Lib.hid cP
  have CE := Lib.hid (fun W => eqFlt 3 (k : Int) 3 (k : Int) W)
  clear cP hp hs hT eR
  go_enter Tryd.func19, Tryd.ntmps19
  go_wp2_with fail
  (with_reducible refine (CP.out).mono ?_); rintro e w2 ⟨rfl, g2⟩
  have b3 : Below w2.heap.size w2 ((w2.alloc (.cells #[.int .i64 0, .slice none 0 0, .string ⟨#[]⟩, .bool false, .bool false] 24)).alloc (.cells #[.int .i64 3, .int .i64 (k : Int)] 33)) := ((Below.refl _ _).alloc (Nat.le_refl _) _).alloc (by simp) _
  have cS : Calls Tryd.prog 16 #[.agg #[.int .i64 0, .slice none 0 0, .string ⟨#[]⟩, .bool false, .bool false], .agg #[.int .i64 0, .slice none 0 0, .string ⟨#[]⟩, .bool false, .bool false]] ((w2.alloc (.cells #[.int .i64 0, .slice none 0 0, .string ⟨#[]⟩, .bool false, .bool false] 24)).alloc (.cells #[.int .i64 3, .int .i64 (k : Int)] 33)) fun e w' => e = .returned (.bool true) ∧ Below ((w2.alloc (.cells #[.int .i64 0, .slice none 0 0, .string ⟨#[]⟩, .bool false, .bool false] 24)).alloc (.cells #[.int .i64 3, .int .i64 (k : Int)] 33)).heap.size ((w2.alloc (.cells #[.int .i64 0, .slice none 0 0, .string ⟨#[]⟩, .bool false, .bool false] 24)).alloc (.cells #[.int .i64 3, .int .i64 (k : Int)] 33)) w' :=
    pSame12 noRsp none none 0 0 0 0 _ Reads.none_ Reads.none_ (by omega)
  have kF := Blk.new (w2.alloc (.cells #[.int .i64 0, .slice none 0 0, .string ⟨#[]⟩, .bool false, .bool false] 24)) 33 #[.int .i64 3, .int .i64 (k : Int)]
  rw [show (w2.alloc (.cells #[.int .i64 0, .slice none 0 0, .string ⟨#[]⟩, .bool false, .bool false] 24)).heap.size = w2.heap.size + 1 by simp] at kF
  have CS := Lib.hid cS
  have KF := Lib.hid kF
  have G3 := Lib.hid (g2.trans (b3.mono g2.size))
  clear cS kF g2 b3 CP
  go_wp2_with fail
  (with_reducible refine (CS.out).mono ?_); rintro e w4 ⟨rfl, g4⟩
  have k4 := KF.out.below g4 KF.out.lt
  have f0 : w4.cell? ⟨w2.heap.size + 1, 0, none⟩ = some (.int .i64 3) := k4.cell 0
  have f1 : w4.cell? ⟨w2.heap.size + 1, 1, none⟩ = some (.int .i64 (k : Int)) := k4.cell 1
  have G4 := Lib.hid (G3.out.trans (g4.mono G3.out.size))
  have hE := CE.out
  clear g4 k4 CS CE
  go_wp2_with fail
  go_ret
  exact ⟨by simp, G4.out⟩
end Go.Proofs.YthhlnpfcpgfcfaaDoor
