/-
  wire: what stands at the parser's head is laid anew; fail, done.
-/
import Derived.Test.YtencphfhpnljlaaGreatDoorWp3
namespace Go.Proofs.YtencphfhpnljlaaGreatDoor
open Go.RowKit

set_option maxRecDepth 100000 in
theorem blk_store16 {w : World} {g : Nat} {T : TypeId} {z0 z1 z2 z3 z4 z5 z6 z7 z8 z9 z10 z11 z12 z13 z14 z15 z16 : Value} (h : Blk w g T #[z0, z1, z2, z3, z4, z5, z6, z7, z8, z9, z10, z11, z12, z13, z14, z15, z16]) (v0 v1 v2 v3 v4 v5 v6 v7 v8 v9 v10 v11 v12 v13 v14 v15 : Value) : Blk ((((((((((((((((w.setCell ⟨g, 0, none⟩ v0).setCell ⟨g, 1, none⟩ v1).setCell ⟨g, 2, none⟩ v2).setCell ⟨g, 3, none⟩ v3).setCell ⟨g, 4, none⟩ v4).setCell ⟨g, 5, none⟩ v5).setCell ⟨g, 6, none⟩ v6).setCell ⟨g, 7, none⟩ v7).setCell ⟨g, 8, none⟩ v8).setCell ⟨g, 9, none⟩ v9).setCell ⟨g, 10, none⟩ v10).setCell ⟨g, 11, none⟩ v11).setCell ⟨g, 12, none⟩ v12).setCell ⟨g, 13, none⟩ v13).setCell ⟨g, 14, none⟩ v14).setCell ⟨g, 15, none⟩ v15) g T #[v0, v1, v2, v3, v4, v5, v6, v7, v8, v9, v10, v11, v12, v13, v14, v15, z16] := by
  have b := ((((((((((((((((h.set_ 0 v0).set_ 1 v1).set_ 2 v2).set_ 3 v3).set_ 4 v4).set_ 5 v5).set_ 6 v6).set_ 7 v7).set_ 8 v8).set_ 9 v9).set_ 10 v10).set_ 11 v11).set_ 12 v12).set_ 13 v13).set_ 14 v14).set_ 15 v15)
  have e : (((((((((((((((((#[z0, z1, z2, z3, z4, z5, z6, z7, z8, z9, z10, z11, z12, z13, z14, z15, z16] : Array Value).setIfInBounds 0 v0).setIfInBounds 1 v1).setIfInBounds 2 v2).setIfInBounds 3 v3).setIfInBounds 4 v4).setIfInBounds 5 v5).setIfInBounds 6 v6).setIfInBounds 7 v7).setIfInBounds 8 v8).setIfInBounds 9 v9).setIfInBounds 10 v10).setIfInBounds 11 v11).setIfInBounds 12 v12).setIfInBounds 13 v13).setIfInBounds 14 v14).setIfInBounds 15 v15) = #[v0, v1, v2, v3, v4, v5, v6, v7, v8, v9, v10, v11, v12, v13, v14, v15, z16] := by simp
  rw [e] at b
  exact b
theorem only_store16 (w : World) (g : Nat) (v0 v1 v2 v3 v4 v5 v6 v7 v8 v9 v10 v11 v12 v13 v14 v15 : Value) : w.grownBy ((((((((((((((((w.setCell ⟨g, 0, none⟩ v0).setCell ⟨g, 1, none⟩ v1).setCell ⟨g, 2, none⟩ v2).setCell ⟨g, 3, none⟩ v3).setCell ⟨g, 4, none⟩ v4).setCell ⟨g, 5, none⟩ v5).setCell ⟨g, 6, none⟩ v6).setCell ⟨g, 7, none⟩ v7).setCell ⟨g, 8, none⟩ v8).setCell ⟨g, 9, none⟩ v9).setCell ⟨g, 10, none⟩ v10).setCell ⟨g, 11, none⟩ v11).setCell ⟨g, 12, none⟩ v12).setCell ⟨g, 13, none⟩ v13).setCell ⟨g, 14, none⟩ v14).setCell ⟨g, 15, none⟩ v15) (some g) := (Lib.grownBy_setB (Lib.grownBy_setB (Lib.grownBy_setB (Lib.grownBy_setB (Lib.grownBy_setB (Lib.grownBy_setB (Lib.grownBy_setB (Lib.grownBy_setB (Lib.grownBy_setB (Lib.grownBy_setB (Lib.grownBy_setB (Lib.grownBy_setB (Lib.grownBy_setB (Lib.grownBy_setB (Lib.grownBy_setB (Lib.grownBy_setB (World.grownBy.refl w (some g)) 0 v0) 1 v1) 2 v2) 3 v3) 4 v4) 5 v5) 6 v6) 7 v7) 8 v8) 9 v9) 10 v10) 11 v11) 12 v12) 13 v13) 14 v14) 15 v15)
/-- a parser at its beginning, or at its end -/
def endA (a : Nat) : WireP := ⟨a, [], [], [], [], 0, [], zeroC, false⟩
def WPost (w0 : World) (g : Nat) (q : WireP) (evs : List EvP) (e : Ending) (w' : World) : Prop := e = .returned (.tuple #[]) ∧ ParS w0 w' g q evs
theorem ParW.len {w0 w : World} {g : Nat} {p : WireP} {evs : List EvP} {A O : Option Addr} {c oc : Nat} {X : List EvM} (h : ParW w0 w g p evs A c O oc X) : X.length = evs.length := by rw [← h.evs, List.length_map]
theorem ParW.reset {w0 w : World} {g : Nat} {p : WireP} {evs : List EvP} {A O : Option Addr} {c oc : Nat} {X : List EvM} (h : ParW w0 w g p evs A c O oc X) (a : Nat) :
    ParW w0 ((((((((((((((((w.setCell ⟨g, 0, none⟩ (.int .i64 (a : Int))).setCell ⟨g, 1, none⟩ (.string ⟨#[]⟩)).setCell ⟨g, 2, none⟩ (.string ⟨#[]⟩)).setCell ⟨g, 3, none⟩ (.string ⟨#[]⟩)).setCell ⟨g, 4, none⟩ (.slice none 0 0)).setCell ⟨g, 5, none⟩ (.string ⟨#[]⟩)).setCell ⟨g, 6, none⟩ (.int .i64 0)).setCell ⟨g, 7, none⟩ (.int .i64 0)).setCell ⟨g, 8, none⟩ (.int .i64 0)).setCell ⟨g, 9, none⟩ (.int .i64 0)).setCell ⟨g, 10, none⟩ (.int .i64 0)).setCell ⟨g, 11, none⟩ (.string ⟨#[]⟩)).setCell ⟨g, 12, none⟩ (.string ⟨#[]⟩)).setCell ⟨g, 13, none⟩ (.int .i64 0)).setCell ⟨g, 14, none⟩ (.int .i64 0)).setCell ⟨g, 15, none⟩ (.bool false)) g (endA a) evs none 0 O oc X :=
  h.turn (q := endA a) (A' := none) (c' := 0) (only_store16 w g (.int .i64 (a : Int)) (.string ⟨#[]⟩) (.string ⟨#[]⟩) (.string ⟨#[]⟩) (.slice none 0 0) (.string ⟨#[]⟩) (.int .i64 0) (.int .i64 0) (.int .i64 0) (.int .i64 0) (.int .i64 0) (.string ⟨#[]⟩) (.string ⟨#[]⟩) (.int .i64 0) (.int .i64 0) (.bool false)) (blk_store16 h.blk (.int .i64 (a : Int)) (.string ⟨#[]⟩) (.string ⟨#[]⟩) (.string ⟨#[]⟩) (.slice none 0 0) (.string ⟨#[]⟩) (.int .i64 0) (.int .i64 0) (.int .i64 0) (.int .i64 0) (.int .i64 0) (.string ⟨#[]⟩) (.string ⟨#[]⟩) (.int .i64 0) (.int .i64 0) (.bool false)) (World.ownsRow_nil _ _ _ _)
theorem pNewW (w : World) : Calls Tryz.prog 10 #[] w fun e w' => e = .returned (.agg #[.int .i64 1, .string ⟨#[]⟩, .string ⟨#[]⟩, .string ⟨#[]⟩, .slice none 0 0, .string ⟨#[]⟩, .int .i64 0, .int .i64 0, .int .i64 0, .int .i64 0, .int .i64 0, .string ⟨#[]⟩, .string ⟨#[]⟩, .int .i64 0, .int .i64 0]) ∧ Below w.heap.size w w' := by
  go_enter Tryz.func10, Tryz.ntmps10
  go_wp2_with fail
  refine bodyPost_ret (results_cell_row (p := 0) (ty := 34) (by kernel_rfl) _ _ w.heap.size 34 #[.int .i64 1, .string ⟨#[]⟩, .string ⟨#[]⟩, .string ⟨#[]⟩, .slice none 0 0, .string ⟨#[]⟩, .int .i64 0, .int .i64 0, .int .i64 0, .int .i64 0, .int .i64 0, .string ⟨#[]⟩, .string ⟨#[]⟩, .int .i64 0, .int .i64 0] (0, 0) _ rfl (Blk.new _ _ _) Tryz.underlying34 rfl (by kernel_rfl)) rfl ?_
  exact ⟨rfl, (Below.refl _ _).alloc (Nat.le_refl _) _⟩
set_option maxRecDepth 100000 in
set_option maxHeartbeats 8000000 in
theorem pFail {w0 W : World} {g : Nat} {p : WireP} {evs : List EvP} (s : Nat) (h : ParS w0 W g p evs) (he : evs.length ≤ 1000000) (hn : p.flds.length ≤ 1000000) :
    Calls Tryz.prog 75 #[.pointer (some ⟨g, 0, none⟩), .int .i64 (s : Nat)] W (WPost w0 g (failW p s).1 (evs ++ (failW p s).2)) := by
  obtain ⟨A, c, O, oc, X, h0⟩ := h
  have h1 := h0.later ((Below.refl W.heap.size W).alloc (Nat.le_refl _) (.cells #[.iface 172 (.agg #[.int .i64 (s : Nat)])] 175))
  have hL : (W.alloc (.cells #[.iface 172 (.agg #[.int .i64 (s : Nat)])] 175)).cell? ⟨W.heap.size, 0, none⟩ = some (.iface 172 (.agg #[.int .i64 (s : Nat)])) := (Blk.new W 175 #[.iface 172 (.agg #[.int .i64 (s : Nat)])]).cell 0
  have CT := Lib.hid (tellWrong h1 s W.heap.size hL (by rw [h0.len]; exact he) hn)
  clear h1 hL h0 he hn
  go_enter Tryz.func75, Tryz.ntmps75
  go_wp2_with fail
  (with_reducible refine (CT.out).mono ?_); rintro e w1 ⟨rfl, O1, oc1, X1, _, h1⟩
  have p0 : w1.cell? ⟨g, 0, none⟩ = some (.int .i64 (p.at_ : Nat)) := h1.blk.cell 0
  have p1 : w1.cell? ⟨g, 1, none⟩ = some (.string (bs p.text)) := h1.blk.cell 1
  have p2 : w1.cell? ⟨g, 2, none⟩ = some (.string (bs p.meth)) := h1.blk.cell 2
  have p3 : w1.cell? ⟨g, 3, none⟩ = some (.string (bs p.tgt)) := h1.blk.cell 3
  have p4 : w1.cell? ⟨g, 4, none⟩ = some (.slice A p.flds.length c) := h1.blk.cell 4
  have p5 : w1.cell? ⟨g, 5, none⟩ = some (.string (bs p.body)) := h1.blk.cell 5
  have p6 : w1.cell? ⟨g, 6, none⟩ = some (.int .i64 (p.left : Nat)) := h1.blk.cell 6
  have p7 : w1.cell? ⟨g, 7, none⟩ = some (.int .i64 (p.chunks.st : Nat)) := h1.blk.cell 7
  have p8 : w1.cell? ⟨g, 8, none⟩ = some (.int .i64 (p.chunks.size : Nat)) := h1.blk.cell 8
  have p9 : w1.cell? ⟨g, 9, none⟩ = some (.int .i64 (p.chunks.digits : Nat)) := h1.blk.cell 9
  have p10 : w1.cell? ⟨g, 10, none⟩ = some (.int .i64 (p.chunks.left : Nat)) := h1.blk.cell 10
  have p11 : w1.cell? ⟨g, 11, none⟩ = some (.string (bs p.chunks.body)) := h1.blk.cell 11
  have p12 : w1.cell? ⟨g, 12, none⟩ = some (.string (bs p.chunks.line)) := h1.blk.cell 12
  have p13 : w1.cell? ⟨g, 13, none⟩ = some (.int .i64 (p.chunks.lines : Nat)) := h1.blk.cell 13
  have p14 : w1.cell? ⟨g, 14, none⟩ = some (.int .i64 (p.chunks.status : Nat)) := h1.blk.cell 14
  have p15 : w1.cell? ⟨g, 15, none⟩ = some (.bool p.over) := h1.blk.cell 15
  have f0 : w1.frozen? ⟨g, 0, none⟩ = false := h1.blk.frozen 0
  have f1 : w1.frozen? ⟨g, 1, none⟩ = false := h1.blk.frozen 1
  have f2 : w1.frozen? ⟨g, 2, none⟩ = false := h1.blk.frozen 2
  have f3 : w1.frozen? ⟨g, 3, none⟩ = false := h1.blk.frozen 3
  have f4 : w1.frozen? ⟨g, 4, none⟩ = false := h1.blk.frozen 4
  have f5 : w1.frozen? ⟨g, 5, none⟩ = false := h1.blk.frozen 5
  have f6 : w1.frozen? ⟨g, 6, none⟩ = false := h1.blk.frozen 6
  have f7 : w1.frozen? ⟨g, 7, none⟩ = false := h1.blk.frozen 7
  have f8 : w1.frozen? ⟨g, 8, none⟩ = false := h1.blk.frozen 8
  have f9 : w1.frozen? ⟨g, 9, none⟩ = false := h1.blk.frozen 9
  have f10 : w1.frozen? ⟨g, 10, none⟩ = false := h1.blk.frozen 10
  have f11 : w1.frozen? ⟨g, 11, none⟩ = false := h1.blk.frozen 11
  have f12 : w1.frozen? ⟨g, 12, none⟩ = false := h1.blk.frozen 12
  have f13 : w1.frozen? ⟨g, 13, none⟩ = false := h1.blk.frozen 13
  have f14 : w1.frozen? ⟨g, 14, none⟩ = false := h1.blk.frozen 14
  have f15 : w1.frozen? ⟨g, 15, none⟩ = false := h1.blk.frozen 15
  have FIN := Lib.hid (h1.reset 5)
  clear h1 CT
  go_wp2_with fail
  go_end0
  exact ⟨rfl, none, 0, O1, oc1, X1, FIN.out⟩
set_option maxRecDepth 100000 in
set_option maxHeartbeats 8000000 in
theorem pDone {w0 W : World} {g : Nat} {p : WireP} {evs : List EvP} (b : List UInt8) (h : ParS w0 W g p evs) (he : evs.length ≤ 1000000) (hn : p.flds.length ≤ 1000000) :
    Calls Tryz.prog 81 #[.pointer (some ⟨g, 0, none⟩), .string (bs b)] W (WPost w0 g (doneW p b).1 (evs ++ (doneW p b).2)) := by
  obtain ⟨A, c, O, oc, X, h0⟩ := h
  have h1 := h0.later ((Below.refl W.heap.size W).alloc (Nat.le_refl _) (.cells #[.iface 182 (.agg #[.string (bs b)])] 175))
  have hL : (W.alloc (.cells #[.iface 182 (.agg #[.string (bs b)])] 175)).cell? ⟨W.heap.size, 0, none⟩ = some (.iface 182 (.agg #[.string (bs b)])) := (Blk.new W 175 #[.iface 182 (.agg #[.string (bs b)])]).cell 0
  have CT := Lib.hid (tellReq h1 b W.heap.size hL (by rw [h0.len]; exact he) hn)
  have CN := Lib.hid (fun X => pNewW X)
  clear h1 hL h0 he hn
  go_enter Tryz.func81, Tryz.ntmps81
  go_wp2_with fail
  (with_reducible refine (CT.out).mono ?_); rintro e w1 ⟨rfl, O1, oc1, X1, _, h1⟩
  have H1 := Lib.hid h1
  clear h1 CT
  go_wp2_with fail
  (with_reducible refine (CN.out _).mono ?_); rintro e w2 ⟨rfl, g2⟩
  have h1 := H1.out.later g2
  clear H1 CN g2
  have p0 : w2.cell? ⟨g, 0, none⟩ = some (.int .i64 (p.at_ : Nat)) := h1.blk.cell 0
  have p1 : w2.cell? ⟨g, 1, none⟩ = some (.string (bs p.text)) := h1.blk.cell 1
  have p2 : w2.cell? ⟨g, 2, none⟩ = some (.string (bs p.meth)) := h1.blk.cell 2
  have p3 : w2.cell? ⟨g, 3, none⟩ = some (.string (bs p.tgt)) := h1.blk.cell 3
  have p4 : w2.cell? ⟨g, 4, none⟩ = some (.slice A p.flds.length c) := h1.blk.cell 4
  have p5 : w2.cell? ⟨g, 5, none⟩ = some (.string (bs p.body)) := h1.blk.cell 5
  have p6 : w2.cell? ⟨g, 6, none⟩ = some (.int .i64 (p.left : Nat)) := h1.blk.cell 6
  have p7 : w2.cell? ⟨g, 7, none⟩ = some (.int .i64 (p.chunks.st : Nat)) := h1.blk.cell 7
  have p8 : w2.cell? ⟨g, 8, none⟩ = some (.int .i64 (p.chunks.size : Nat)) := h1.blk.cell 8
  have p9 : w2.cell? ⟨g, 9, none⟩ = some (.int .i64 (p.chunks.digits : Nat)) := h1.blk.cell 9
  have p10 : w2.cell? ⟨g, 10, none⟩ = some (.int .i64 (p.chunks.left : Nat)) := h1.blk.cell 10
  have p11 : w2.cell? ⟨g, 11, none⟩ = some (.string (bs p.chunks.body)) := h1.blk.cell 11
  have p12 : w2.cell? ⟨g, 12, none⟩ = some (.string (bs p.chunks.line)) := h1.blk.cell 12
  have p13 : w2.cell? ⟨g, 13, none⟩ = some (.int .i64 (p.chunks.lines : Nat)) := h1.blk.cell 13
  have p14 : w2.cell? ⟨g, 14, none⟩ = some (.int .i64 (p.chunks.status : Nat)) := h1.blk.cell 14
  have p15 : w2.cell? ⟨g, 15, none⟩ = some (.bool p.over) := h1.blk.cell 15
  have f0 : w2.frozen? ⟨g, 0, none⟩ = false := h1.blk.frozen 0
  have f1 : w2.frozen? ⟨g, 1, none⟩ = false := h1.blk.frozen 1
  have f2 : w2.frozen? ⟨g, 2, none⟩ = false := h1.blk.frozen 2
  have f3 : w2.frozen? ⟨g, 3, none⟩ = false := h1.blk.frozen 3
  have f4 : w2.frozen? ⟨g, 4, none⟩ = false := h1.blk.frozen 4
  have f5 : w2.frozen? ⟨g, 5, none⟩ = false := h1.blk.frozen 5
  have f6 : w2.frozen? ⟨g, 6, none⟩ = false := h1.blk.frozen 6
  have f7 : w2.frozen? ⟨g, 7, none⟩ = false := h1.blk.frozen 7
  have f8 : w2.frozen? ⟨g, 8, none⟩ = false := h1.blk.frozen 8
  have f9 : w2.frozen? ⟨g, 9, none⟩ = false := h1.blk.frozen 9
  have f10 : w2.frozen? ⟨g, 10, none⟩ = false := h1.blk.frozen 10
  have f11 : w2.frozen? ⟨g, 11, none⟩ = false := h1.blk.frozen 11
  have f12 : w2.frozen? ⟨g, 12, none⟩ = false := h1.blk.frozen 12
  have f13 : w2.frozen? ⟨g, 13, none⟩ = false := h1.blk.frozen 13
  have f14 : w2.frozen? ⟨g, 14, none⟩ = false := h1.blk.frozen 14
  have f15 : w2.frozen? ⟨g, 15, none⟩ = false := h1.blk.frozen 15
  have FIN := Lib.hid (h1.reset 1)
  clear h1
  go_wp2_with fail
  go_end0
  exact ⟨rfl, none, 0, O1, oc1, X1, FIN.out⟩
end Go.Proofs.YtencphfhpnljlaaGreatDoor
