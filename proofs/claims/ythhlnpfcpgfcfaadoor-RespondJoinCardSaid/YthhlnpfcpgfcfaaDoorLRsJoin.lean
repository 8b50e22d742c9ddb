/-
  waypostlaw12.RespondJoin: true, whatever the list of responses.
-/
import Derived.Test.YthhlnpfcpgfcfaaDoorRj1
import Derived.Deep.RegionHeld3
namespace Go.Proofs.YthhlnpfcpgfcfaaDoor
open Go.RowKit

def BoundJ (r : Rsp) : Prop := r.flds.length ≤ 9223372036854775807 ∧ r.body.length ≤ 9223372036854775807 ∧ ∀ f ∈ r.flds, f.1.length ≤ 9223372036854775807 ∧ f.2.length ≤ 9223372036854775807
set_option maxRecDepth 100000 in
set_option maxHeartbeats 8000000 in
theorem RespondJoin_true (X : List RJ) (A : Option Addr) (n c : Nat) (w : World) (hr : Reads w w.heap.size 5 A n (cellsJ X)) (hn : n ≤ 9223372036854775807) (hx : ∀ x ∈ X, Reads w w.heap.size 2 x.2.1 x.1.flds.length (fldsC x.1.flds) ∧ BoundJ x.1) (ht : Tab12 w) :
    Calls Tryd.prog 4 #[.slice A n c] w fun e w' => e = .returned (.bool true) ∧ Below w.heap.size w w' := by
  obtain rfl := hr.jlen
  have HT := Lib.hid ht
  have HR := Lib.hid hr
  have HX := Lib.hid hx
  have AW := Lib.hid (fun X (hX : Below w.heap.size w X) => awake12 X (ht.below hX))
  clear ht hr hx
  by_cases h5 : 5 < X.length
  · have i5 : (5 : Int) < (X.length : Int) := by omega
    have CA := Lib.hid (AW.out w (Below.refl _ _))
    go_enter Tryd.func4, Tryd.ntmps4
    go_wp2_with fail
    (with_reducible refine (CA.out).mono ?_); rintro e w2 ⟨rfl, g2⟩
    go_wp2_with fail
    go_ret
    exact ⟨rfl, g2⟩
  have i5 : ¬ (5 : Int) < (X.length : Int) := by omega
  go_enter Tryd.func4, Tryd.ntmps4
  go_wp2_with fail
  go_loopw [3, 4, 5, 6] (fun all hs want i wr => ∃ (k : Nat) (Y : List Rsp) (WJ : List RJ) (H : Option Addr) (ch : Nat) (B : Option Addr) (cw : Nat), i = .int .i64 k ∧ k ≤ X.length ∧ all = .string (bs (allT Y)) ∧ hs = .slice H Y.length ch ∧ want = .slice B Y.length cw ∧ (∀ r ∈ Y, checkR r = 0) ∧ Y.length ≤ k ∧ WJ.map (·.1) = Y.map backR ∧
      Hid (wr.ownsRow w.heap.size 4 1 (.slice H Y.length ch) Y.length (boolsJ (Y.map (·.head)))) ∧ Hid (wr.ownsRow w.heap.size 24 5 (.slice B Y.length cw) Y.length (cellsJ WJ)) ∧ Hid (HeldJ wr w.heap.size WJ) ∧ Hid (Below w.heap.size w wr)) (fun _ _ _ i _ => X.length - (intOf i).toNat)
  case atStart => exact ⟨0, [], [], none, 0, none, 0, rfl, by omega, rfl, rfl, rfl, by simp, by simp, rfl, hide (World.ownsRow_nil _ _ _ _), hide (World.ownsRow_nil _ _ _ _), hide (fun x hx => by cases hx), hide (Below.refl _ _)⟩
  case round =>
    obtain ⟨k, Y, WJ, H, ch, B, cw, rfl, hk, rfl, rfl, rfl, hok, hYk, hWJ, hOH, hOW, hHJ, hG⟩ := hrel
    rename World => wr
    have HOK := Lib.hid hok
    have HWJ := Lib.hid hWJ
    have hal := allT_len Y hok
    clear hok hWJ
    by_cases hlt : k < X.length
    · have P0 := fun V (hV : Below wr.heap.size wr V) => (HR.out.below (hG.out.trans (hV.mono hG.out.size))).rj k hlt
      obtain ⟨b, o, rfl, _, p0, p1, p2, p3, p4⟩ := P0 wr (Below.refl _ _)
      obtain ⟨hrx, hbx⟩ := HX.out X[k] (List.getElem_mem hlt)
      obtain ⟨x, hxx⟩ : ∃ x, X[k] = x := ⟨_, rfl⟩
      rw [hxx] at p0 p1 p2 p3 p4 hrx hbx P0
      clear hxx
      obtain ⟨r, A0, c0⟩ := x
      simp only at p0 p1 p2 p3 p4 hrx hbx P0
      obtain ⟨code, flds, body, close, head⟩ := r
      simp only at p0 p1 p2 p3 p4 hrx P0
      obtain ⟨q1, q2, q3⟩ := hbx
      simp only at q1 q2 q3
      have i0 : (0 : Int) ≤ (k : Int) := by omega
      have i1 : (k : Int) < (X.length : Int) := by omega
      have cL := pLight12 ⟨code, flds, body, close, head⟩ A0 flds.length c0 wr ((hrx.below hG.out).more hG.out.size) q1 q2 q3
      unfold rspV LightPostR at cL
      simp only at cL
      have CL := Lib.hid cL
      have HRX := Lib.hid hrx
      have P := Lib.hid (show ∀ V, Below wr.heap.size wr V → V.cell? ⟨b, o + k * 5, none⟩ = some (.int .i64 code) ∧ V.cell? ⟨b, o + k * 5 + 1, none⟩ = some (.slice A0 flds.length c0) ∧ V.cell? ⟨b, o + k * 5 + 2, none⟩ = some (.string (bs body)) ∧ V.cell? ⟨b, o + k * 5 + 3, none⟩ = some (.bool close) ∧ V.cell? ⟨b, o + k * 5 + 4, none⟩ = some (.bool head) from fun V hV => by
        obtain ⟨b', o', e, _, y0, y1, y2, y3, y4⟩ := P0 V hV
        simp only [Option.some.injEq, Addr.mk.injEq, and_true] at e
        obtain ⟨rfl, rfl⟩ := e
        exact ⟨y0, y1, y2, y3, y4⟩)
      clear P0 cL hrx q1 q2 q3
      go_wp2_with fail
      (with_reducible refine (CL.out).mono ?_); rintro e w2 ⟨lb, rfl, hlb, g2⟩
      have G2 := Lib.hid (hG.out.trans (g2.mono hG.out.size))
      cases lb with
      | false =>
        have CA := Lib.hid (AW.out w2 G2.out)
        clear hlb
        go_wp2_with fail
        (with_reducible refine (CA.out).mono ?_); rintro e w3 ⟨rfl, g3⟩
        go_wp2_with fail
        go_ret
        exact ⟨rfl, G2.out.trans (g3.mono G2.out.size)⟩
      | true =>
        obtain ⟨l1, l2, l3⟩ := hlb rfl
        simp only at l1 l2 l3
        have HL := Lib.hid (show fldsOkR flds from fun f hf => by have := l3 f hf; omega)
        have OH2 := Lib.hid (own_below hOH.out g2)
        have OW2 := Lib.hid (own_below hOW.out g2)
        have HJ2 := Lib.hid (hHJ.out.below g2)
        have V2 := Lib.hid g2
        clear p0 p1 p2 p3 p4 hlb l3 CL g2
        obtain ⟨p0, p1, p2, p3, p4⟩ := P.out w2 V2.out
        have cO := pOwn12O ⟨code, flds, body, close, head⟩ A0 flds.length c0 w2 ((HRX.out.below G2.out).more G2.out.size) (by omega)
        unfold OwnPostO rspV at cO
        simp only at cO
        have CO := Lib.hid cO
        clear cO
        go_wp2_with fail
        (with_reducible refine (CO.out).mono ?_); rintro e w3 ⟨B1, d1, rfl, hd1, o1, g3⟩
        have G3 := Lib.hid (G2.out.trans (g3.mono G2.out.size))
        have V3 := Lib.hid (V2.out.trans (g3.mono V2.out.size))
        have cT := pTextR ⟨code, flds, body, close, head⟩ B1 flds.length d1 w3 (Reads.of_own o1) (by omega) HL.out (by simp only; omega) (HT.out.below G3.out).r
        unfold rspV at cT
        simp only at cT
        obtain ⟨E0, hE0⟩ : ∃ E0, checkR ⟨code, flds, body, close, head⟩ = E0 := ⟨_, rfl⟩
        have HE0 := Lib.hid hE0
        obtain ⟨S, hS⟩ : ∃ S, bs (textOf ⟨code, flds, body, close, head⟩) = S := ⟨_, rfl⟩
        rw [hE0, hS] at cT
        have HS := Lib.hid hS
        have CT := Lib.hid cT
        have OH3 := Lib.hid (own_below OH2.out g3)
        have OW3 := Lib.hid (own_below OW2.out g3)
        have HJ3 := Lib.hid (HJ2.out.below g3)
        clear cT o1 g3 CO hE0 hS OH2 OW2 HJ2 V2 p0 p1 p2 p3 p4
        go_wp2_with fail
        (with_reducible refine (CT.out).mono ?_); rintro e w4 ⟨rfl, g4⟩
        have G4 := Lib.hid (G3.out.trans (g4.mono G3.out.size))
        have V4 := Lib.hid (V3.out.trans (g4.mono V3.out.size))
        have OH4 := Lib.hid (own_below OH3.out g4)
        have OW4 := Lib.hid (own_below OW3.out g4)
        have HJ4 := Lib.hid (HJ3.out.below g4)
        clear g4 CT OH3 OW3 HJ3 V3 G3
        by_cases hE : E0 = 0
        · subst hE
          have hc0 := HE0.out
          have hSt : bs (textR ⟨code, flds, body, close, head⟩) = S := by rw [← HS.out]; unfold textOf; rw [if_pos hc0]
          have hSl : S.size ≤ 100000 := by rw [← hSt, bs_size]; exact textJ_len hc0
          subst hSt
          have HC0 := Lib.hid hc0
          have zA := bs_size (allT Y)
          have hAz : (allT Y).length ≤ 500000 := by omega
          have z1 : ¬ 9223372036854775807 < (allT Y).length + (bs (textR ⟨code, flds, body, close, head⟩)).size := by omega
          have zT := bs_size (textR ⟨code, flds, body, close, head⟩)
          have z2 : ¬ 9223372036854775807 < (allT Y).length + (textR ⟨code, flds, body, close, head⟩).length := by omega
          clear HS HE0 hc0 hal hSl
          obtain ⟨p0, p1, p2, p3, p4⟩ := P.out w4 V4.out
          have cO := pOwn12O ⟨code, flds, body, close, head⟩ A0 flds.length c0 w4 ((HRX.out.below G4.out).more G4.out.size) (by omega)
          unfold OwnPostO rspV at cO
          simp only at cO
          have CO := Lib.hid cO
          clear cO
          go_wp2_with fail
          (with_reducible refine (CO.out).mono ?_); rintro e w5 ⟨B2, d2, rfl, hd2, o2, g5⟩
          have G5 := Lib.hid (G4.out.trans (g5.mono G4.out.size))
          have OH5 := Lib.hid (own_below OH4.out g5)
          have OW5 := Lib.hid (own_below OW4.out g5)
          have HJ5 := Lib.hid (HJ4.out.below g5)
          have OY5 := Lib.hid (own_leJ o2 G4.out.size)
          clear g5 CO OH4 OW4 HJ4 V4 o2 p0 p1 p2 p3 p4 hOH hOW hHJ
          cases head with
          | true =>
            have bZ : Below w5.heap.size w5 (w5.alloc (.cells #[.int .i64 code, .slice B2 flds.length d2, .string ⟨#[]⟩, .bool close, .bool true] 24)) := (Below.refl _ _).alloc (Nat.le_refl _) _
            have kZ := Blk.new w5 24 #[.int .i64 code, .slice B2 flds.length d2, .string ⟨#[]⟩, .bool close, .bool true]
            have hbZ : w.heap.size ≤ (w5.alloc (.cells #[.int .i64 code, .slice B2 flds.length d2, .string ⟨#[]⟩, .bool close, .bool true] 24)).heap.size := Nat.le_trans G5.out.size bZ.size
            have oH := own_below OH5.out bZ
            have oW := own_below OW5.out bZ
            have hJ := HJ5.out.below bZ
            have oY := own_below OY5.out bZ
            obtain ⟨H1, ch1, w6, hrunH, oH6, b6, g6⟩ := app_boolJ oH hbZ (by omega) true
            rw [show (w5.alloc (.cells #[.int .i64 code, .slice B2 flds.length d2, .string ⟨#[]⟩, .bool close, .bool true] 24)).heap.size = w5.heap.size + 1 by simp] at hrunH
            have k6 := kZ.grown g6 (own_blk_ne (e := 4) oH kZ (by decide)).symm
            have oW6 := oW.kept g6 (own_own_ne oW oH (by decide))
            have hJ6 := (hJ.app (⟨code, flds, [], close, true⟩, B2, d2) oY).grown oH (by decide) g6
            have hb6 : w.heap.size ≤ w6.heap.size := ((G5.out.trans (bZ.mono G5.out.size)).trans b6).size
            obtain ⟨B3, cw1, w7, hrunW, oW7, b7, g7⟩ := app_rspJ oW6 hb6 (by omega) (⟨code, flds, [], close, true⟩, B2, d2)
            simp only at hrunW
            have oH7 := oH6.kept g7 (own_own_ne oH6 oW6 (by decide))
            have hJ7 := hJ6.grown oW6 (by decide) g7
            have c40 : (w5.alloc (.cells #[.int .i64 code, .slice B2 flds.length d2, .string ⟨#[]⟩, .bool close, .bool true] 24)).cell? ⟨w5.heap.size, 4, none⟩ = some (.bool true) := kZ.cell 4
            have c4h := Lib.hid hrunH
            have c4w := Lib.hid hrunW
            have c60 : w6.cell? ⟨w5.heap.size, 0, none⟩ = some (.int .i64 code) := k6.cell 0
            have c61 : w6.cell? ⟨w5.heap.size, 1, none⟩ = some (.slice B2 flds.length d2) := k6.cell 1
            have c62 : w6.cell? ⟨w5.heap.size, 2, none⟩ = some (.string ⟨#[]⟩) := k6.cell 2
            have c63 : w6.cell? ⟨w5.heap.size, 3, none⟩ = some (.bool close) := k6.cell 3
            have c64 : w6.cell? ⟨w5.heap.size, 4, none⟩ = some (.bool true) := k6.cell 4
            have FIN := Lib.hid (And.intro oH7 (And.intro oW7 (And.intro hJ7 (((G5.out.trans (bZ.mono G5.out.size)).trans b6).trans b7))))
            have hmJ : (WJ ++ [((⟨code, flds, [], close, true⟩ : Rsp), B2, d2)]).map (·.1) = (Y ++ [(⟨code, flds, body, close, true⟩ : Rsp)]).map backR := by rw [List.map_append, List.map_append, HWJ.out]; rfl
            have HMJ := Lib.hid hmJ
            clear bZ kZ hbZ oH oW hJ oY hrunH oH6 b6 g6 k6 oW6 hJ6 hb6 hrunW oW7 b7 g7 oH7 hJ7 hmJ
            go_wp2_with (first | (at_builtin; refine wpList_append_run c4h.out rfl _ _ rfl rfl rfl rfl ?_) | (at_builtin; refine wpList_append_run c4w.out rfl _ _ rfl rfl rfl rfl ?_))
            go_roundw
            case rel =>
              refine ⟨k + 1, Y ++ [⟨code, flds, body, close, true⟩], WJ ++ [((⟨code, flds, [], close, true⟩ : Rsp), B2, d2)], H1, ch1, B3, cw1, by go_num, by omega, ?_, by rw [List.length_append]; rfl, by rw [List.length_append]; rfl, ?_, by rw [List.length_append]; simp; omega, HMJ.out, ?_, ?_, hide FIN.out.2.2.1, hide FIN.out.2.2.2⟩
              · rw [allT_app, show (allT [(⟨code, flds, body, close, true⟩ : Rsp)]) = textR ⟨code, flds, body, close, true⟩ by simp [allT], ← bs_app]
              · intro z hz
                rcases List.mem_append.1 hz with hz | hz
                · exact HOK.out z hz
                · rw [List.mem_singleton.1 hz]; exact HC0.out
              · have := FIN.out.1
                rw [List.length_append, List.map_append]
                exact hide this
              · have := FIN.out.2.1
                rw [List.length_append]
                exact hide this
            case measure => simp [intOf]; omega
          | false =>
            have bZ : Below w5.heap.size w5 (w5.alloc (.cells #[.int .i64 code, .slice B2 flds.length d2, .string (bs body), .bool close, .bool false] 24)) := (Below.refl _ _).alloc (Nat.le_refl _) _
            have kZ := Blk.new w5 24 #[.int .i64 code, .slice B2 flds.length d2, .string (bs body), .bool close, .bool false]
            have hbZ : w.heap.size ≤ (w5.alloc (.cells #[.int .i64 code, .slice B2 flds.length d2, .string (bs body), .bool close, .bool false] 24)).heap.size := Nat.le_trans G5.out.size bZ.size
            have oH := own_below OH5.out bZ
            have oW := own_below OW5.out bZ
            have hJ := HJ5.out.below bZ
            have oY := own_below OY5.out bZ
            obtain ⟨H1, ch1, w6, hrunH, oH6, b6, g6⟩ := app_boolJ oH hbZ (by omega) false
            rw [show (w5.alloc (.cells #[.int .i64 code, .slice B2 flds.length d2, .string (bs body), .bool close, .bool false] 24)).heap.size = w5.heap.size + 1 by simp] at hrunH
            have k6 := kZ.grown g6 (own_blk_ne (e := 4) oH kZ (by decide)).symm
            have oW6 := oW.kept g6 (own_own_ne oW oH (by decide))
            have hJ6 := (hJ.app (⟨code, flds, body, close, false⟩, B2, d2) oY).grown oH (by decide) g6
            have hb6 : w.heap.size ≤ w6.heap.size := ((G5.out.trans (bZ.mono G5.out.size)).trans b6).size
            obtain ⟨B3, cw1, w7, hrunW, oW7, b7, g7⟩ := app_rspJ oW6 hb6 (by omega) (⟨code, flds, body, close, false⟩, B2, d2)
            simp only at hrunW
            have oH7 := oH6.kept g7 (own_own_ne oH6 oW6 (by decide))
            have hJ7 := hJ6.grown oW6 (by decide) g7
            have c40 : (w5.alloc (.cells #[.int .i64 code, .slice B2 flds.length d2, .string (bs body), .bool close, .bool false] 24)).cell? ⟨w5.heap.size, 4, none⟩ = some (.bool false) := kZ.cell 4
            have c4h := Lib.hid hrunH
            have c4w := Lib.hid hrunW
            have c60 : w6.cell? ⟨w5.heap.size, 0, none⟩ = some (.int .i64 code) := k6.cell 0
            have c61 : w6.cell? ⟨w5.heap.size, 1, none⟩ = some (.slice B2 flds.length d2) := k6.cell 1
            have c62 : w6.cell? ⟨w5.heap.size, 2, none⟩ = some (.string (bs body)) := k6.cell 2
            have c63 : w6.cell? ⟨w5.heap.size, 3, none⟩ = some (.bool close) := k6.cell 3
            have c64 : w6.cell? ⟨w5.heap.size, 4, none⟩ = some (.bool false) := k6.cell 4
            have FIN := Lib.hid (And.intro oH7 (And.intro oW7 (And.intro hJ7 (((G5.out.trans (bZ.mono G5.out.size)).trans b6).trans b7))))
            have hmJ : (WJ ++ [((⟨code, flds, body, close, false⟩ : Rsp), B2, d2)]).map (·.1) = (Y ++ [(⟨code, flds, body, close, false⟩ : Rsp)]).map backR := by rw [List.map_append, List.map_append, HWJ.out]; rfl
            have HMJ := Lib.hid hmJ
            clear bZ kZ hbZ oH oW hJ oY hrunH oH6 b6 g6 k6 oW6 hJ6 hb6 hrunW oW7 b7 g7 oH7 hJ7 hmJ
            go_wp2_with (first | (at_builtin; refine wpList_append_run c4h.out rfl _ _ rfl rfl rfl rfl ?_) | (at_builtin; refine wpList_append_run c4w.out rfl _ _ rfl rfl rfl rfl ?_))
            go_roundw
            case rel =>
              refine ⟨k + 1, Y ++ [⟨code, flds, body, close, false⟩], WJ ++ [((⟨code, flds, body, close, false⟩ : Rsp), B2, d2)], H1, ch1, B3, cw1, by go_num, by omega, ?_, by rw [List.length_append]; rfl, by rw [List.length_append]; rfl, ?_, by rw [List.length_append]; simp; omega, HMJ.out, ?_, ?_, hide FIN.out.2.2.1, hide FIN.out.2.2.2⟩
              · rw [allT_app, show (allT [(⟨code, flds, body, close, false⟩ : Rsp)]) = textR ⟨code, flds, body, close, false⟩ by simp [allT], ← bs_app]
              · intro z hz
                rcases List.mem_append.1 hz with hz | hz
                · exact HOK.out z hz
                · rw [List.mem_singleton.1 hz]; exact HC0.out
              · have := FIN.out.1
                rw [List.length_append, List.map_append]
                exact hide this
              · have := FIN.out.2.1
                rw [List.length_append]
                exact hide this
            case measure => simp [intOf]; omega
        · have hE1 : ((E0 : Int) == 0) = false := by rw [beq_eq_false_iff_ne]; omega
          have hE2 : ((E0 : Int) != 0) = true := by rw [bne_iff_ne]; omega
          go_wp2_with fail
          go_roundw
          case rel => exact ⟨k + 1, Y, WJ, H, ch, B, cw, by go_num, by omega, rfl, rfl, rfl, HOK.out, by omega, HWJ.out, OH4, OW4, HJ4, G4⟩
          case measure => simp [intOf]; omega
    · obtain rfl : k = X.length := by omega
      have hY5 : Y.length ≤ 5 := by omega
      have cA := pAllJ Y H Y.length ch wr HOK.out hY5 (Reads.of_own hOH.out) (HT.out.below hG.out)
      unfold AllPost at cA
      have CA := Lib.hid cA
      have hd : decide ((X.length : Int) < (X.length : Int)) = false := by simp
      clear cA hal
      go_wp2_with fail
      (with_reducible refine (CA.out).mono ?_); rintro e w2 ⟨A2, c2, L, hLm, rfl, oL, hJL, g2⟩
      have hLY : L.length = Y.length := by have := congrArg List.length hLm; simpa using this
      have hWY : WJ.length = Y.length := by have := congrArg List.length HWJ.out; simpa using this
      have bZ : Below w2.heap.size w2 (w2.alloc (.cells #[.int .i64 0, .int .i64 0] 33)) := (Below.refl _ _).alloc (Nat.le_refl _) _
      have kZ := Blk.new w2 33 #[.int .i64 0, .int .i64 0]
      have y0 : (w2.alloc (.cells #[.int .i64 0, .int .i64 0] 33)).cell? ⟨w2.heap.size, 0, none⟩ = some (.int .i64 0) := kZ.cell 0
      have y1 : (w2.alloc (.cells #[.int .i64 0, .int .i64 0] 33)).cell? ⟨w2.heap.size, 1, none⟩ = some (.int .i64 0) := kZ.cell 1
      have gL := own_below oL bZ
      have gW := own_below (own_below hOW.out g2) bZ
      have jL := hJL.below bZ
      have jW := (hHJ.out.below g2).below bZ
      have gZ := (hG.out.trans (g2.mono hG.out.size)).trans (bZ.mono (hG.out.trans (g2.mono hG.out.size)).size)
      have hN := neFlt 0 0 0 0
      rw [hLY] at gL
      have HLM := Lib.hid (And.intro hLm hLY)
      have GZ := Lib.hid gZ
      have JL := Lib.hid jL
      have JW := Lib.hid jW
      have RL := Lib.hid (Reads.of_own gL)
      have RW := Lib.hid (Reads.of_own gW)
      rw [hLY]
      clear bZ kZ hLm oL hJL g2 gL gW jL jW gZ CA hOH hOW hHJ hG
      go_wp2_with fail
      generalize w2.alloc (.cells #[.int .i64 0, .int .i64 0] 33) = Z at GZ JL JW RL RW y0 y1 ⊢
      clear y0 y1 hN
      go_loopw [12] (fun j wv => ∃ i : Nat, j = .int .i64 i ∧ i ≤ Y.length ∧ Hid (Below Z.heap.size Z wv)) (fun j _ => Y.length - (intOf j).toNat)
      case atStart => exact ⟨0, rfl, by omega, hide (Below.refl _ _)⟩
      case round =>
        obtain ⟨i, rfl, hi, hB⟩ := hrel
        rename World => wv
        have GV := Lib.hid (GZ.out.trans (hB.out.mono GZ.out.size))
        by_cases hlt2 : i < Y.length
        · have hiL : i < L.length := by rw [HLM.out.2]; exact hlt2
          have hiW : i < WJ.length := by rw [hWY]; exact hlt2
          have e1 : L[i].1 = backR Y[i] := by
            have := congrArg (·[i]?) HLM.out.1
            simpa [hiL, hlt2] using this
          have e2 : WJ[i].1 = backR Y[i] := by
            have := congrArg (·[i]?) HWJ.out
            simpa [hiW, hlt2] using this
          have rdL := (JL.out.below hB.out).reads i hiL
          have rdW := (JW.out.below hB.out).reads i hiW
          have cellL := fun V (hV : Below Z.heap.size Z V) => (RL.out.below hV).rj i hiL
          have cellW := fun V (hV : Below Z.heap.size Z V) => (RW.out.below hV).rj i hiW
          obtain ⟨x, hx⟩ : ∃ x, L[i] = x := ⟨_, rfl⟩
          obtain ⟨y, hy⟩ : ∃ y, WJ[i] = y := ⟨_, rfl⟩
          have hf32 : (backR Y[i]).flds.length ≤ 32 := (check_ok (HOK.out Y[i] (List.getElem_mem hlt2))).2.1
          obtain ⟨q, hq⟩ : ∃ q, backR Y[i] = q := ⟨_, rfl⟩
          rw [hq] at hf32
          rw [hx] at e1 rdL cellL
          rw [hy] at e2 rdW cellW
          rw [hq] at e1 e2
          obtain ⟨q1, AL, cl⟩ := x
          obtain ⟨q2, AW2, cw2⟩ := y
          simp only at e1 e2 rdL rdW cellL cellW
          rw [← e2] at hf32
          have e3 := e2.trans e1.symm
          subst e3
          clear e1 e2 hq
          have i0 : (0 : Int) ≤ (i : Int) := by omega
          have i1 : (i : Int) < (Y.length : Int) := by omega
          obtain ⟨bL, oL, rfl, _, _⟩ := cellL Z (Below.refl _ _)
          obtain ⟨bW, oW, rfl, _, _⟩ := cellW Z (Below.refl _ _)
          obtain ⟨code, flds, body, close, head⟩ := q2
          simp only at rdL rdW cellL cellW hf32
          have CC := Lib.hid (show ∀ X, Below wv.heap.size wv X → ((X.cell? ⟨bL, oL + i * 5, none⟩ = some (.int .i64 code) ∧ X.cell? ⟨bL, oL + i * 5 + 1, none⟩ = some (.slice AL flds.length cl) ∧ X.cell? ⟨bL, oL + i * 5 + 2, none⟩ = some (.string (bs body)) ∧ X.cell? ⟨bL, oL + i * 5 + 3, none⟩ = some (.bool close) ∧ X.cell? ⟨bL, oL + i * 5 + 4, none⟩ = some (.bool head)) ∧ (X.cell? ⟨bW, oW + i * 5, none⟩ = some (.int .i64 code) ∧ X.cell? ⟨bW, oW + i * 5 + 1, none⟩ = some (.slice AW2 flds.length cw2) ∧ X.cell? ⟨bW, oW + i * 5 + 2, none⟩ = some (.string (bs body)) ∧ X.cell? ⟨bW, oW + i * 5 + 3, none⟩ = some (.bool close) ∧ X.cell? ⟨bW, oW + i * 5 + 4, none⟩ = some (.bool head))) from fun V hV => by
            obtain ⟨b1, o1, E1, _, a0, a1, a2, a3, a4⟩ := cellL V (hB.out.trans (hV.mono hB.out.size))
            obtain ⟨b2, o2, E2, _, d0, d1, d2, d3, d4⟩ := cellW V (hB.out.trans (hV.mono hB.out.size))
            simp only [Option.some.injEq, Addr.mk.injEq, and_true] at E1 E2
            obtain ⟨rfl, rfl⟩ := E1
            obtain ⟨rfl, rfl⟩ := E2
            exact ⟨⟨a0, a1, a2, a3, a4⟩, ⟨d0, d1, d2, d3, d4⟩⟩)
          have CS := Lib.hid (show ∀ V, Below wv.heap.size wv V → Calls Tryd.prog 16 #[.agg #[.int .i64 code, .slice AL flds.length cl, .string (bs body), .bool close, .bool head], .agg #[.int .i64 code, .slice AW2 flds.length cw2, .string (bs body), .bool close, .bool head]] V fun e w' => e = .returned (.bool true) ∧ Below V.heap.size V w' from fun V hV => pSame12 ⟨code, flds, body, close, head⟩ AL AW2 flds.length flds.length cl cw2 V ((rdL.below hV).more hV.size) ((rdW.below hV).more hV.size) (by omega))
          have BD := Lib.hid (Below.refl wv.heap.size wv).drew
          have S0 := CC.out wv (Below.refl _ _)
          have HBB := Lib.hid hB.out
          clear cellL cellW rdL rdW hf32 hB GV
          go_wp2_with fail
          go_region_held3 (fun X => (X.cell? ⟨bL, oL + i * 5, none⟩ = some (.int .i64 code) ∧ X.cell? ⟨bL, oL + i * 5 + 1, none⟩ = some (.slice AL flds.length cl) ∧ X.cell? ⟨bL, oL + i * 5 + 2, none⟩ = some (.string (bs body)) ∧ X.cell? ⟨bL, oL + i * 5 + 3, none⟩ = some (.bool close) ∧ X.cell? ⟨bL, oL + i * 5 + 4, none⟩ = some (.bool head)) ∧ (X.cell? ⟨bW, oW + i * 5, none⟩ = some (.int .i64 code) ∧ X.cell? ⟨bW, oW + i * 5 + 1, none⟩ = some (.slice AW2 flds.length cw2) ∧ X.cell? ⟨bW, oW + i * 5 + 2, none⟩ = some (.string (bs body)) ∧ X.cell? ⟨bW, oW + i * 5 + 3, none⟩ = some (.bool close) ∧ X.cell? ⟨bW, oW + i * 5 + 4, none⟩ = some (.bool head))) (first | exact S0 | exact S1) (first
            | (go_at_call 16; (with_reducible refine (CS.out _ BD.out).mono ?_); rintro e v1 ⟨rfl, hv1⟩; have hv2 := BD.out.trans (hv1.mono BD.out.size); have S1 := CC.out v1 hv2))
          all_goals (
            go_wp2_with fail
            go_roundw
            case rel => exact ⟨i + 1, by go_num, by omega, hide (HBB.out.trans (hv2.mono HBB.out.size))⟩
            case measure => simp [intOf]; omega)
        · obtain rfl : i = Y.length := by omega
          have CA := Lib.hid (AW.out wv GV.out)
          have hd2 : decide ((Y.length : Int) < (Y.length : Int)) = false := by simp
          go_wp2_with fail
          (with_reducible refine (CA.out).mono ?_); rintro e w3 ⟨rfl, g3⟩
          go_wp2_with fail
          go_ret
          exact ⟨rfl, GV.out.trans (g3.mono GV.out.size)⟩
end Go.Proofs.YthhlnpfcpgfcfaaDoor
