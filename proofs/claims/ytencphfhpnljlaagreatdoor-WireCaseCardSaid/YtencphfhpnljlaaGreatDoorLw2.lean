/-
  waypostlaw11: get, awake.
-/
import Derived.Test.YtencphfhpnljlaaGreatDoorLw1
import Derived.Test.YtencphfhpnljlaaGreatDoorWi3
import Derived.Deep.RegionHeld3
namespace Go.Proofs.YtencphfhpnljlaaGreatDoor
open Go.RowKit

theorem pGet (w : World) : Calls Tryz.prog 29 #[] w fun e w' => e = .returned (.agg #[.string ⟨#[71, 69, 84]⟩, .string ⟨#[47]⟩]) ∧ Below w.heap.size w w' := by
  go_enter Tryz.func29, Tryz.ntmps29
  go_wp2_with fail
  refine bodyPost_ret (results_cell_row (p := 0) (ty := 24) (by kernel_rfl) _ _ w.heap.size 24 #[.string ⟨#[71, 69, 84]⟩, .string ⟨#[47]⟩] (0, 0) _ rfl (Blk.new _ _ _) Tryz.underlying24 rfl (by kernel_rfl)) rfl ?_
  exact ⟨rfl, (Below.refl _ _).alloc (Nat.le_refl _) _⟩
theorem reads_ints (w : World) (l : List Nat) (cs : Array Value) (h : cs.toList = ints l) : Reads (w.alloc (.cells cs 3)) (w.alloc (.cells cs 3)).heap.size 1 (some ⟨w.heap.size, 0, none⟩) l.length (ints l) := by
  refine ⟨by rw [ints_len]; omega, fun _ => ⟨_, rfl, by simp, fun j u hu => ?_⟩⟩
  rw [Addr.add_lit, Nat.zero_add, (Blk.new w 3 cs).cell j]
  rw [← h] at hu
  simpa using hu
def hostF : Fld := ([72, 111, 115, 116], [97])
def aw15 : List UInt8 := [71, 69, 84, 32, 47, 32, 72, 84, 84, 80, 47, 49, 46, 49, 13, 10, 72, 111, 115, 116, 58, 32, 97, 13, 10, 13, 10]
set_option maxRecDepth 100000 in
set_option maxHeartbeats 16000000 in
theorem awake11 (w : World) (hT : TabW w) : Calls Tryz.prog 14 #[] w fun e w' => e = .returned (.bool true) ∧ Below w.heap.size w w' := by
  have cA := pAllW aw15 w (by decide) hT
  rw [show (feedW newW aw15).2 = _ from kw15] at cA
  rw [show bs aw15 = ⟨#[71, 69, 84, 32, 47, 32, 72, 84, 84, 80, 47, 49, 46, 49, 13, 10, 72, 111, 115, 116, 58, 32, 97, 13, 10, 13, 10]⟩ from rfl] at cA
  have CA := Lib.hid cA
  have CG := Lib.hid pGet
  have HT := Lib.hid hT
  clear cA hT
  go_enter Tryz.func14, Tryz.ntmps14
  go_wp2_with fail
  (with_reducible refine (CA.out).mono ?_); rintro e W ⟨O, oc, X, rfl, hX, hRX, hHX, g1⟩
  obtain ⟨x1, x2, x3, rfl, h1, h2, h3⟩ : ∃ x1 x2 x3, X = [x1, x2, x3] ∧ x1.1 = ⟨1, [71, 69, 84], [47], [], [], 0⟩ ∧ x2.1 = ⟨2, [71, 69, 84], [47], [([72, 111, 115, 116], [97])], [], 0⟩ ∧ x3.1 = ⟨3, [71, 69, 84], [47], [([72, 111, 115, 116], [97])], [], 0⟩ := by
    match X, hX with
    | [], h => simp at h
    | [_], h => simp at h
    | [_, _], h => simp at h
    | [a, b, c], h => simp at h; exact ⟨a, b, c, rfl, h.1, h.2.1, h.2.2⟩
    | _ :: _ :: _ :: _ :: _, h => simp at h
  obtain ⟨y1, A1, c1⟩ := x1
  obtain ⟨y2, A2, c2⟩ := x2
  obtain ⟨y3, A3, c3⟩ := x3
  simp only at h1 h2 h3
  subst h1 h2 h3
  have hF := hHX.reads 1 (by simp)
  obtain ⟨b, o, hO, hb, q0, q1, q2, q3, q4, q5⟩ := hRX.ev 0 (by simp)
  obtain ⟨b', o', hO', _, r0, r1, r2, r3, r4, r5⟩ := hRX.ev 1 (by simp)
  obtain ⟨b'', o'', hO'', _, s0, s1, s2, s3, s4, s5⟩ := hRX.ev 2 (by simp)
  rw [hO] at hO' hO''
  simp only [Option.some.injEq, Addr.mk.injEq, and_true] at hO' hO''
  obtain ⟨rfl, rfl⟩ := hO'
  obtain ⟨rfl, rfl⟩ := hO''
  subst hO
  have SS : ∀ V, Below W.heap.size W V → V.cell? ⟨b, o, none⟩ = some (.int .i64 1) ∧ V.cell? ⟨b, o + 1, none⟩ = some (.string ⟨#[71, 69, 84]⟩) ∧ V.cell? ⟨b, o + 2, none⟩ = some (.string ⟨#[47]⟩) ∧ V.cell? ⟨b, o + 6, none⟩ = some (.int .i64 2) ∧ V.cell? ⟨b, o + 9, none⟩ = some (.slice A2 1 c2) ∧ V.cell? ⟨b, o + 12, none⟩ = some (.int .i64 3) := fun V hV => ⟨(hV.cell (p := ⟨b, o, none⟩) hb).trans q0, (hV.cell (p := ⟨b, o + 1, none⟩) hb).trans q1, (hV.cell (p := ⟨b, o + 2, none⟩) hb).trans q2, (hV.cell (p := ⟨b, o + 6, none⟩) hb).trans r0, (hV.cell (p := ⟨b, o + 9, none⟩) hb).trans r3, (hV.cell (p := ⟨b, o + 12, none⟩) hb).trans s0⟩
  have qE : ∀ w, (binOp .eql 24 (.agg #[.string ⟨#[71, 69, 84]⟩, .string ⟨#[47]⟩]) (.agg #[.string ⟨#[71, 69, 84]⟩, .string ⟨#[47]⟩])).run Tryz.prog w = .ok (.bool true) w := fun _ => by kernel_rfl
  have CF := Lib.hid (show ∀ V, Below W.heap.size W V → Calls Tryz.prog 12 #[.slice A2 1 c2, .slice (some ⟨V.heap.size, 0, none⟩) 1 1] (V.alloc (.cells #[.string ⟨#[72, 111, 115, 116]⟩, .string ⟨#[97]⟩] 49)) fun e w' => e = .returned (.bool true) ∧ Below V.heap.size V w' from fun V hV => by
    have b1 := (Below.refl V.heap.size V).alloc (Nat.le_refl _) (.cells #[.string ⟨#[72, 111, 115, 116]⟩, .string ⟨#[97]⟩] 49)
    have hr1 : Reads V V.heap.size 2 A2 1 (fldsC [hostF]) := (hF.below hV).more hV.size
    refine (SameFields_any A2 (some ⟨V.heap.size, 0, none⟩) 1 1 c2 1 [hostF] [hostF] _ ((hr1.below b1).more b1.size) (reads_newF V 49 [hostF] _ rfl) (by omega) (by omega)).mono ?_
    rintro e w' ⟨rfl, k, rfl⟩
    exact ⟨by simp, below_drewN b1 k⟩)
  have CT := Lib.hid (show ∀ V, Below W.heap.size W V → Calls Tryz.prog 17 #[.string ⟨#[13, 10]⟩, .int .i64 400, .string ⟨#[]⟩, .slice (some ⟨V.heap.size, 0, none⟩) 1 1] (V.alloc (.cells #[.int .i64 4] 3)) fun e w' => e = .returned (.bool true) ∧ Below V.heap.size V w' from fun V hV => by
    have b1 := (Below.refl V.heap.size V).alloc (Nat.le_refl _) (.cells #[.int .i64 4] 3)
    refine (pTells [13, 10] 400 400 rfl [] [4] (some ⟨V.heap.size, 0, none⟩) 1 1 _ (reads_ints V [4] _ rfl) kw14 (by decide) (HT.out.below (g1.trans ((hV.trans (b1.mono hV.size)).mono g1.size)))).mono ?_
    rintro e w' ⟨rfl, g⟩
    exact ⟨rfl, b1.trans (g.mono b1.size)⟩)
  have S1 := Lib.hid SS
  have G1 := Lib.hid g1
  have BD := Lib.hid ((Below.refl W.heap.size W).drew)
  have HBL := Lib.hid hb
  obtain ⟨t0, t1, t2, t3, t4, t5⟩ := S1.out W (Below.refl _ _)
  have i0 : (0 : Int) < 3 := by omega
  have i1 : (1 : Int) < 3 := by omega
  have i2 : (2 : Int) < 3 := by omega
  clear SS q0 q1 q2 q3 q4 q5 r0 r1 r2 r3 r4 r5 s0 s1 s2 s3 s4 s5 hRX hHX hF hX g1 hb
  go_wp2_with fail
  go_region_held3 (fun V => V.cell? ⟨b, o, none⟩ = some (.int .i64 1) ∧ V.cell? ⟨b, o + 1, none⟩ = some (.string ⟨#[71, 69, 84]⟩) ∧ V.cell? ⟨b, o + 2, none⟩ = some (.string ⟨#[47]⟩) ∧ V.cell? ⟨b, o + 6, none⟩ = some (.int .i64 2) ∧ V.cell? ⟨b, o + 9, none⟩ = some (.slice A2 1 c2) ∧ V.cell? ⟨b, o + 12, none⟩ = some (.int .i64 3)) (first | exact S1.out _ hv2 | exact S1.out _ hv4 | exact S1.out _ hv6 | exact S1.out _ BD.out | exact S1.out _ (hv2.alloc hv2.size _) | exact S1.out _ (hv4.alloc hv4.size _)) (first
    | (go_at_call 29; (with_reducible refine (CG.out _).mono ?_); rintro r va ⟨rfl, hva⟩; have hv2 := BD.out.trans (hva.mono BD.out.size))
    | (go_at_call 12; (with_reducible refine (CF.out _ hv2).mono ?_); rintro r vb ⟨rfl, hvb⟩; have hv4 := hv2.trans (hvb.mono hv2.size))
    | (go_at_call 17; (with_reducible refine (CT.out _ hv4).mono ?_); rintro r vc ⟨rfl, hvc⟩; have hv6 := hv4.trans (hvc.mono hv4.size)))
  go_wp2_with fail
  go_ret
  exact ⟨rfl, G1.out.trans (hv6.mono G1.out.size)⟩
end Go.Proofs.YtencphfhpnljlaaGreatDoor
