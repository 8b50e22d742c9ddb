/-
  wire: a byte of a request line.
-/
import Derived.Test.YtencphfhpnljlaaGreatDoorWp5
namespace Go.Proofs.YtencphfhpnljlaaGreatDoor
open Go.RowKit

theorem wp_line (p : WireP) (f o : Value) (m t : List UInt8) : ((((wpV p f o).setIfInBounds 2 (.string (bs m))).setIfInBounds 3 (.string (bs t))).setIfInBounds 1 (.string ⟨#[]⟩)).setIfInBounds 0 (.int .i64 2) = wpV { p with meth := m, tgt := t, text := [], at_ := 2 } f o := by simp [wpV, wpA, bs]
theorem ParW.line {w0 w : World} {g : Nat} {p : WireP} {evs : List EvP} {A O : Option Addr} {c oc : Nat} {X : List EvM} (h : ParW w0 w g p evs A c O oc X) (m t : List UInt8) :
    ParW w0 ((((w.setCell ⟨g, 2, none⟩ (.string (bs m))).setCell ⟨g, 3, none⟩ (.string (bs t))).setCell ⟨g, 1, none⟩ (.string ⟨#[]⟩)).setCell ⟨g, 0, none⟩ (.int .i64 2)) g { p with meth := m, tgt := t, text := [], at_ := 2 } evs A c O oc X := by
  have b := (((h.blk.set_ 2 (.string (bs m))).set_ 3 (.string (bs t))).set_ 1 (.string ⟨#[]⟩)).set_ 0 (.int .i64 2)
  rw [wp_line] at b
  have hg := Lib.grownBy_setB (Lib.grownBy_setB (Lib.grownBy_setB (Lib.grownBy_setB (World.grownBy.refl w (some g)) 2 (.string (bs m))) 3 (.string (bs t))) 1 (.string ⟨#[]⟩)) 0 (.int .i64 2)
  exact h.turn hg b (own_only h.flds h.blk (by decide) hg)
theorem pFailZ {w0 W : World} {g : Nat} {p : WireP} {evs : List EvP} (s : Nat) (z : Int) (hz : z = (s : Int)) (h : ParS w0 W g p evs) (he : evs.length ≤ 1000000) (hn : p.flds.length ≤ 1000000) :
    Calls Tryz.prog 75 #[.pointer (some ⟨g, 0, none⟩), .int .i64 z] W (WPost w0 g (failW p s).1 (evs ++ (failW p s).2)) := by
  subst hz
  exact pFail s h he hn
set_option maxRecDepth 100000 in
set_option maxHeartbeats 8000000 in
theorem pLineW {w0 W : World} {g : Nat} {p : WireP} {evs : List EvP} (b : UInt8) (h : ParS w0 W g p evs) (hat : p.at_ = 1) (ht : p.text.length ≤ 900000) (he : evs.length ≤ 900000) (hn : p.flds.length ≤ 1000000) (hM : ∀ V, w0.grownBy V (some g) → MaxL V) :
    Calls Tryz.prog 47 #[.pointer (some ⟨g, 0, none⟩), .int .u8 (b.toNat : Int)] W (WPost w0 g (stepW p b).1 (evs ++ (stepW p b).2)) := by
  obtain ⟨A, c, O, oc, X, h0⟩ := h
  have hst : stepW p b = if b ≠ 10 then (if longS (bareS (p.text ++ [b])) ≠ 0 then failW { p with text := p.text ++ [b] } (longS (bareS (p.text ++ [b]))) else ({ p with text := p.text ++ [b] }, []))
    else if p.text.getLast? ≠ some 13 then failW p 400
    else if (lineS p.text.dropLast).2 ≠ 0 then failW p (lineS p.text.dropLast).2
    else ({ p with meth := (lineS p.text.dropLast).1.1, tgt := (lineS p.text.dropLast).1.2, text := [], at_ := 2 }, [⟨1, (lineS p.text.dropLast).1.1, (lineS p.text.dropLast).1.2, [], [], 0⟩]) := by
    unfold stepW; rw [if_pos hat]
  have p1 : W.cell? ⟨g, 1, none⟩ = some (.string (bs p.text)) := h0.blk.cell 1
  have f1 : W.frozen? ⟨g, 1, none⟩ = false := h0.blk.frozen 1
  have HST := Lib.hid hst
  clear hst
  by_cases hb : b = 10
  · rw [if_neg (by simp [hb])] at HST
    have cC := fun V => pCutCR p.text V (by omega)
    have CF := Lib.hid (fun V (hV : ParS w0 V g p evs) s => pFail s hV (by omega) hn)
    have H0 := Lib.hid h0
    subst hb
    have e1 : (((10 : UInt8).toNat : Int) != 10) = false := rfl
    by_cases hcr : p.text.getLast? = some 13
    · rw [bare_cr hcr, decide_eq_true hcr] at cC
      rw [if_neg (by simp [hcr])] at HST
      have hl1 : p.text.dropLast.length ≤ 1000000 := by rw [List.length_dropLast]; omega
      have cP := fun V (hV : w0.grownBy V (some g)) => pParseQ p.text.dropLast V hl1 (hM V hV)
      obtain ⟨S, hS⟩ : ∃ S, p.text.dropLast = S := ⟨_, rfl⟩
      rw [hS] at cC cP HST
      obtain ⟨⟨m, t⟩, s, hX⟩ : ∃ x s, lineS S = (x, s) := ⟨_, _, rfl⟩
      rw [hX] at cP HST
      simp only at cP HST
      have CC := Lib.hid cC
      have CP := Lib.hid (cP W h0.only)
      clear cC cP hS hl1 hcr h0 hM hX
      by_cases hs : s = 0
      · subst hs
        have HST := Lib.hid (HST.out.trans (if_neg (by simp)))
        have e2 : (((0 : Nat) : Int) != 0) = false := rfl
        go_enter Tryz.func47, Tryz.ntmps47
        go_wp2_with fail
        (with_reducible refine (CC.out _).mono ?_); rintro e w1 ⟨rfl, rfl⟩
        rename World => W
        go_wp2_with fail
        (with_reducible refine (CP.out).mono ?_); rintro e w2 ⟨r, rfl, g2⟩
        have h2 := H0.out.later (g2.alloc g2.size (.cells #[.string (bs m), .string (bs t)] 24))
        have k2 := Blk.new w2 24 #[.string (bs m), .string (bs t)]
        have q0 : (w2.alloc (.cells #[.string (bs m), .string (bs t)] 24)).cell? ⟨w2.heap.size, 0, none⟩ = some (.string (bs m)) := k2.cell 0
        have q1 : (w2.alloc (.cells #[.string (bs m), .string (bs t)] 24)).cell? ⟨w2.heap.size, 1, none⟩ = some (.string (bs t)) := k2.cell 1
        have a0 : (w2.alloc (.cells #[.string (bs m), .string (bs t)] 24)).cell? ⟨g, 0, none⟩ = some (.int .i64 (p.at_ : Nat)) := h2.blk.cell 0
        have a1 : (w2.alloc (.cells #[.string (bs m), .string (bs t)] 24)).cell? ⟨g, 1, none⟩ = some (.string (bs p.text)) := h2.blk.cell 1
        have a2 : (w2.alloc (.cells #[.string (bs m), .string (bs t)] 24)).cell? ⟨g, 2, none⟩ = some (.string (bs p.meth)) := h2.blk.cell 2
        have a3 : (w2.alloc (.cells #[.string (bs m), .string (bs t)] 24)).cell? ⟨g, 3, none⟩ = some (.string (bs p.tgt)) := h2.blk.cell 3
        have b0 := h2.blk.frozen 0
        have b1 := h2.blk.frozen 1
        have b2 := h2.blk.frozen 2
        have b3 := h2.blk.frozen 3
        have h3 := h2.line m t
        have h4 := h3.later ((Below.refl _ _).alloc (Nat.le_refl _) (.cells #[.iface 141 (.agg #[])] 175))
        have hsz : (((((w2.alloc (.cells #[.string (bs m), .string (bs t)] 24)).setCell ⟨g, 2, none⟩ (.string (bs m))).setCell ⟨g, 3, none⟩ (.string (bs t))).setCell ⟨g, 1, none⟩ (.string ⟨#[]⟩)).setCell ⟨g, 0, none⟩ (.int .i64 2)).heap.size = w2.heap.size + 1 := by simp [World.setCell]
        have kE := Blk.new ((((((w2.alloc (.cells #[.string (bs m), .string (bs t)] 24)).setCell ⟨g, 2, none⟩ (.string (bs m))).setCell ⟨g, 3, none⟩ (.string (bs t))).setCell ⟨g, 1, none⟩ (.string ⟨#[]⟩)).setCell ⟨g, 0, none⟩ (.int .i64 2))) 175 #[.iface 141 (.agg #[])]
        rw [hsz] at kE
        have CT := Lib.hid (tellLine h4 (w2.heap.size + 1) (kE.cell 0) (by rw [h4.len]; omega) hn)
        clear h2 h3 h4 k2 kE g2 hsz
        go_wp2_with fail
        (with_reducible refine (CT.out).mono ?_); rintro e w5 ⟨rfl, O1, oc1, X1, _, h5⟩
        go_wp2_with fail
        go_end0
        rw [HST.out]
        exact ⟨rfl, A, c, O1, oc1, X1, h5⟩
      · have HST := Lib.hid (HST.out.trans (if_pos hs))
        have e2 : ((s : Int) != 0) = true := by rw [bne_iff_ne]; omega
        clear hs
        go_enter Tryz.func47, Tryz.ntmps47
        go_wp2_with fail
        (with_reducible refine (CC.out _).mono ?_); rintro e w1 ⟨rfl, rfl⟩
        rename World => W
        go_wp2_with fail
        (with_reducible refine (CP.out).mono ?_); rintro e w2 ⟨r, rfl, g2⟩
        have CF2 := Lib.hid (CF.out _ ⟨A, c, O, oc, X, H0.out.later (g2.alloc g2.size (.cells #[.string (bs m), .string (bs t)] 24))⟩ s)
        clear g2
        go_wp2_with fail
        (with_reducible refine (CF2.out).mono ?_); rintro e w5 ⟨rfl, h5⟩
        go_wp2_with fail
        go_end0
        rw [HST.out]
        exact ⟨rfl, h5⟩
    · rw [decide_eq_false hcr] at cC
      rw [if_pos hcr] at HST
      have CC := Lib.hid cC
      have CF2 := Lib.hid (pFailZ 400 400 rfl ⟨A, c, O, oc, X, H0.out⟩ (by omega) hn)
      clear cC hcr h0 hM CF
      go_enter Tryz.func47, Tryz.ntmps47
      go_wp2_with fail
      (with_reducible refine (CC.out _).mono ?_); rintro e w1 ⟨rfl, rfl⟩
      rename World => W
      go_wp2_with fail
      (with_reducible refine (CF2.out).mono ?_); rintro e w5 ⟨rfl, h5⟩
      go_wp2_with fail
      go_end0
      rw [HST.out]
      exact ⟨rfl, h5⟩
  · rw [if_pos hb] at HST
    have n10 : b.toNat ≠ 10 := fun e => hb (UInt8.toNat_inj.1 e)
    have e1 : ((b.toNat : Int) != 10) = true := by rw [bne_iff_ne]; omega
    have CV := byte_conv W b
    have hcat := bs_one p.text b
    have hl1 : (p.text ++ [b]).length ≤ 1000000 := by rw [List.length_append]; simp; omega
    have h1 := ((h0.later ((Below.refl W.heap.size W).alloc (Nat.le_refl _) (.cells #[.int .u8 (b.toNat : Int)] 5))).text (p.text ++ [b])).later (Below.refl _ _).drew
    have cB := fun V => pBare (p.text ++ [b]) V hl1
    have hbl := bare_len (p.text ++ [b])
    have cL := pLong (bareS (p.text ++ [b])) _ (by omega) (hM _ h1.only)
    have CF := Lib.hid (fun V (hV : ParS w0 V g { p with text := p.text ++ [b] } evs) s => pFail s hV (by omega) hn)
    have zs := bs_size p.text
    have zt := bs_size (p.text ++ [b])
    obtain ⟨E, hE⟩ : ∃ E, longS (bareS (p.text ++ [b])) = E := ⟨_, rfl⟩
    rw [hE] at cL HST
    obtain ⟨T, hT⟩ : ∃ T, bs (p.text ++ [b]) = T := ⟨_, rfl⟩
    rw [hT] at hcat h1 cB cL zt
    obtain ⟨S, hS⟩ : ∃ S, bs p.text = S := ⟨_, rfl⟩
    rw [hS] at hcat p1 zs
    obtain ⟨U, hU⟩ : ∃ U, bs (bareS (p.text ++ [b])) = U := ⟨_, rfl⟩
    rw [hU] at cB cL
    have s1 : S.size ≤ 900000 := by omega
    have s2 : ¬ 9223372036854775806 < S.size := by omega
    have s3 : ¬ 9223372036854775807 < S.size + 1 := by omega
    have s4 : S.size < 9223372036854775807 := by omega
    have CB := Lib.hid cB
    have CL := Lib.hid cL
    have H1 := Lib.hid h1
    have hgl := h0.blk.lt
    have ng : ¬ g = W.heap.size := by omega
    have p1' : (W.alloc (.cells #[.int .u8 (b.toNat : Int)] 5)).cell? ⟨g, 1, none⟩ = some (.string S) := (World.cell?_alloc_lt W _ ⟨g, 1, none⟩ hgl).trans p1
    have f1' : (W.alloc (.cells #[.int .u8 (b.toNat : Int)] 5)).frozen? ⟨g, 1, none⟩ = false := (h0.blk.alloc _).frozen 1
    clear cB cL h1 hT hS hU hE zs zt hbl hl1 h0 hM hgl n10 hb
    generalize (b.toNat : Int) = bn at *
    by_cases hE0 : E = 0
    · subst hE0
      have HST := Lib.hid (HST.out.trans (if_neg (by simp)))
      have e2 : (((0 : Nat) : Int) != 0) = false := rfl
      go_enter Tryz.func47, Tryz.ntmps47
      go_wp2_with fail
      go_region
      go_wp2_with fail
      (with_reducible refine (CB.out _).mono ?_); rintro e w1 ⟨rfl, rfl⟩
      go_wp2_with fail
      (with_reducible refine (CL.out).mono ?_); rintro e w2 ⟨r, rfl, g2⟩
      go_wp2_with fail
      go_end0
      rw [HST.out, List.append_nil]
      exact ⟨rfl, A, c, O, oc, X, H1.out.later g2⟩
    · have HST := Lib.hid (HST.out.trans (if_pos hE0))
      have e2 : ((E : Int) != 0) = true := by rw [bne_iff_ne]; omega
      clear hE0
      go_enter Tryz.func47, Tryz.ntmps47
      go_wp2_with fail
      go_region
      go_wp2_with fail
      (with_reducible refine (CB.out _).mono ?_); rintro e w1 ⟨rfl, rfl⟩
      go_wp2_with fail
      (with_reducible refine (CL.out).mono ?_); rintro e w2 ⟨r, rfl, g2⟩
      have CF2 := Lib.hid (CF.out _ ⟨A, c, O, oc, X, H1.out.later g2⟩ E)
      clear g2
      go_wp2_with fail
      (with_reducible refine (CF2.out).mono ?_); rintro e w5 ⟨rfl, h5⟩
      go_wp2_with fail
      go_end0
      rw [HST.out]
      exact ⟨rfl, h5⟩
end Go.Proofs.YtencphfhpnljlaaGreatDoor
