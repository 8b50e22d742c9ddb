/-
  waypostlaw42.HandlerBodies: true, whatever the request and what was found.
-/
import Derived.Test.YthhlnpfcpgfcfaaDoorHa7
import Derived.Test.YthhlnpfcpgfcfaaDoorHaN
import Derived.Test.YthhlnpfcpgfcfaaDoorHa12
namespace Go.Proofs.YthhlnpfcpgfcfaaDoor
open Go.RowKit

set_option maxRecDepth 100000 in
set_option maxHeartbeats 4000000 in
theorem HandlerBodies_true (f : FoundP) (r : ReqP) (S N V FA : Option Addr) (cs cn cv fn fc : Nat) (host : ByteArray) (w : World) (hf1 : f.segs.length ≤ 9223372036854775807) (hf2 : f.names.length ≤ 9223372036854775807) (hf3 : f.vals.length ≤ 9223372036854775807)
    (hS : Reads w w.heap.size 1 S f.segs.length (strs f.segs)) (hN : Reads w w.heap.size 1 N f.names.length (strs f.names)) (hV : Reads w w.heap.size 1 V f.vals.length (strs f.vals)) (hT : Tab42 w) :
    Calls Tryd.prog 6 #[reqV r host FA fn fc, fndV f S N V cs cn cv] w fun e w' => e = .returned (.bool true) ∧ Below w.heap.size w w' := by
  have b2 : Below w.heap.size w ((w.alloc (.cells #[.string (bs r.method), .string (bs r.path), .string (bs r.query), .string host, .slice FA fn fc, .string (bs r.body)] 50)).alloc (.cells (fndC f S N V cs cn cv) 55)) := ((Below.refl _ _).alloc (Nat.le_refl _) _).alloc (by simp) _
  have kr := (Blk.new w 50 #[.string (bs r.method), .string (bs r.path), .string (bs r.query), .string host, .slice FA fn fc, .string (bs r.body)]).alloc (.cells (fndC f S N V cs cn cv) 55)
  have kf := Blk.new (w.alloc (.cells #[.string (bs r.method), .string (bs r.path), .string (bs r.query), .string host, .slice FA fn fc, .string (bs r.body)] 50)) 55 (fndC f S N V cs cn cv)
  rw [show (w.alloc (.cells #[.string (bs r.method), .string (bs r.path), .string (bs r.query), .string host, .slice FA fn fc, .string (bs r.body)] 50)).heap.size = w.heap.size + 1 by simp] at kf
  have cL := pLight42 f r S N V FA cs cn cv fn fc host _ hf1 hf2 hf3 ((hS.below b2).more b2.size) ((hN.below b2).more b2.size) ((hV.below b2).more b2.size)
  have kc : ∀ X, Below w.heap.size w X → Tab42 X ∧ Reads X X.heap.size 1 N f.names.length (strs f.names) ∧ Reads X X.heap.size 1 V f.vals.length (strs f.vals) := fun X hX => ⟨hT.below hX, (hN.below hX).more hX.size, (hV.below hX).more hX.size⟩
  unfold fndC at *
  unfold fndV reqV at *
  have CL := Lib.hid cL
  have B2 := Lib.hid b2
  have KR := Lib.hid kr
  have KF := Lib.hid kf
  have KC := Lib.hid kc
  clear cL b2 kr kf kc hS hN hV hT hf1 hf2 hf3
  go_enter Tryd.func6, Tryd.ntmps6
  go_wp2_with fail
  (with_reducible refine (CL.out).mono ?_); rintro e w1 ⟨lb, rfl, hlb, g1⟩
  have G1 := Lib.hid (B2.out.trans (g1.mono B2.out.size))
  have K1 := Lib.hid (KR.out.below g1 KR.out.lt)
  have F1 := Lib.hid (KF.out.below g1 KF.out.lt)
  clear g1 CL KR KF
  have CA := Lib.hid (awake42 w1 (KC.out w1 G1.out).1)
  cases lb with
  | false =>
    clear hlb
    go_wp2_with fail
    (with_reducible refine (CA.out).mono ?_); rintro e w2 ⟨rfl, g2⟩
    go_wp2_with fail
    go_ret
    exact ⟨rfl, G1.out.trans (g2.mono G1.out.size)⟩
  | true =>
    have HL := Lib.hid (hlb rfl)
    have cB := pBody f r S N V FA cs cn cv fn fc host w1 HL.out (KC.out w1 G1.out).2.1 (KC.out w1 G1.out).2.2
    have cR := fun X (hX : Below w.heap.size w X) => rBody f r S N V FA cs cn cv fn fc host X HL.out (KC.out X hX).2.1 (KC.out X hX).2.2
    obtain ⟨T, E, hT⟩ : ∃ T E, bodyT f r = (T, E) := ⟨_, _, rfl⟩
    rw [hT] at cB cR
    unfold fndV reqV at cB cR
    have CB := Lib.hid cB
    have CR := Lib.hid cR
    have c0 : w1.cell? ⟨w.heap.size + 1, 0, none⟩ = some (.bool f.ok) := F1.out.cell 0
    have c1 : w1.cell? ⟨w.heap.size + 1, 1, none⟩ = some (.slice S f.segs.length cs) := F1.out.cell 1
    have c2 : w1.cell? ⟨w.heap.size + 1, 2, none⟩ = some (.int .i64 f.kind) := F1.out.cell 2
    have c3 : w1.cell? ⟨w.heap.size + 1, 3, none⟩ = some (.string (bs f.text)) := F1.out.cell 3
    have c4 : w1.cell? ⟨w.heap.size + 1, 4, none⟩ = some (.slice N f.names.length cn) := F1.out.cell 4
    have c5 : w1.cell? ⟨w.heap.size + 1, 5, none⟩ = some (.slice V f.vals.length cv) := F1.out.cell 5
    have c6 : w1.cell? ⟨w.heap.size + 1, 6, none⟩ = some (.string (bs f.rest)) := F1.out.cell 6
    have d0 : w1.cell? ⟨w.heap.size, 0, none⟩ = some (.string (bs r.method)) := K1.out.cell 0
    have d1 : w1.cell? ⟨w.heap.size, 1, none⟩ = some (.string (bs r.path)) := K1.out.cell 1
    have d2 : w1.cell? ⟨w.heap.size, 2, none⟩ = some (.string (bs r.query)) := K1.out.cell 2
    have d3 : w1.cell? ⟨w.heap.size, 3, none⟩ = some (.string host) := K1.out.cell 3
    have d4 : w1.cell? ⟨w.heap.size, 4, none⟩ = some (.slice FA fn fc) := K1.out.cell 4
    have d5 : w1.cell? ⟨w.heap.size, 5, none⟩ = some (.string (bs r.body)) := K1.out.cell 5
    have e1 : ((bs T).toList == (bs T).toList) = true := by simp
    have e2 : ((E : Int) == (E : Int)) = true := by simp
    clear cB cR hT hlb CA
    go_wp2_with fail
    (with_reducible refine (CB.out).mono ?_); rintro e w2 ⟨rfl, g2⟩
    have G2 := Lib.hid (G1.out.trans (g2.mono G1.out.size))
    have K2 := Lib.hid (K1.out.below g2 K1.out.lt)
    have F2 := Lib.hid (F1.out.below g2 F1.out.lt)
    clear g2 CB c0 c1 c2 c3 c4 c5 c6 d0 d1 d2 d3 d4 d5 K1 F1
    have c0 : w2.cell? ⟨w.heap.size + 1, 0, none⟩ = some (.bool f.ok) := F2.out.cell 0
    have c1 : w2.cell? ⟨w.heap.size + 1, 1, none⟩ = some (.slice S f.segs.length cs) := F2.out.cell 1
    have c2 : w2.cell? ⟨w.heap.size + 1, 2, none⟩ = some (.int .i64 f.kind) := F2.out.cell 2
    have c3 : w2.cell? ⟨w.heap.size + 1, 3, none⟩ = some (.string (bs f.text)) := F2.out.cell 3
    have c4 : w2.cell? ⟨w.heap.size + 1, 4, none⟩ = some (.slice N f.names.length cn) := F2.out.cell 4
    have c5 : w2.cell? ⟨w.heap.size + 1, 5, none⟩ = some (.slice V f.vals.length cv) := F2.out.cell 5
    have c6 : w2.cell? ⟨w.heap.size + 1, 6, none⟩ = some (.string (bs f.rest)) := F2.out.cell 6
    have d0 : w2.cell? ⟨w.heap.size, 0, none⟩ = some (.string (bs r.method)) := K2.out.cell 0
    have d1 : w2.cell? ⟨w.heap.size, 1, none⟩ = some (.string (bs r.path)) := K2.out.cell 1
    have d2 : w2.cell? ⟨w.heap.size, 2, none⟩ = some (.string (bs r.query)) := K2.out.cell 2
    have d3 : w2.cell? ⟨w.heap.size, 3, none⟩ = some (.string host) := K2.out.cell 3
    have d4 : w2.cell? ⟨w.heap.size, 4, none⟩ = some (.slice FA fn fc) := K2.out.cell 4
    have d5 : w2.cell? ⟨w.heap.size, 5, none⟩ = some (.string (bs r.body)) := K2.out.cell 5
    have CR2 := Lib.hid (CR.out w2 G2.out)
    clear CR
    go_wp2_with fail
    (with_reducible refine (CR2.out).mono ?_); rintro e w3 ⟨rfl, g3⟩
    have G3 := Lib.hid (G2.out.trans (g3.mono G2.out.size))
    have CA := Lib.hid (awake42 w3 (KC.out w3 G3.out).1)
    clear g3 CR2 c0 c1 c2 c3 c4 c5 c6 d0 d1 d2 d3 d4 d5
    go_wp2_with fail
    (with_reducible refine (CA.out).mono ?_); rintro e w4 ⟨rfl, g4⟩
    go_wp2_with fail
    go_ret
    exact ⟨by simp, G3.out.trans (g4.mono G3.out.size)⟩
end Go.Proofs.YthhlnpfcpgfcfaaDoor
