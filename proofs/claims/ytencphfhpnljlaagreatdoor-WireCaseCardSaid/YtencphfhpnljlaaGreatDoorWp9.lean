/-
  wire: the end of a head.
-/
import Derived.Test.YtencphfhpnljlaaGreatDoorWp8
import Derived.Test.YtencphfhpnljlaaGreatDoorWe2
namespace Go.Proofs.YtencphfhpnljlaaGreatDoor
open Go.RowKit

theorem wp_over2 (p : WireP) (f o : Value) : ((wpV p f o).setIfInBounds 1 (.string ⟨#[]⟩)).setIfInBounds 15 (.bool true) = wpV { p with text := [], over := true } f o := by simp [wpV, wpA, bs]
theorem ParW.over2 {w0 w : World} {g : Nat} {p : WireP} {evs : List EvP} {A O : Option Addr} {c oc : Nat} {X : List EvM} (h : ParW w0 w g p evs A c O oc X) :
    ParW w0 ((w.setCell ⟨g, 1, none⟩ (.string ⟨#[]⟩)).setCell ⟨g, 15, none⟩ (.bool true)) g { p with text := [], over := true } evs A c O oc X := by
  have b := (h.blk.set_ 1 (.string ⟨#[]⟩)).set_ 15 (.bool true)
  rw [wp_over2] at b
  have hg := Lib.grownBy_setB (Lib.grownBy_setB (World.grownBy.refl w (some g)) 1 (.string ⟨#[]⟩)) 15 (.bool true)
  exact h.turn hg b (own_only h.flds h.blk (by decide) hg)
theorem wp_at (p : WireP) (f o : Value) (a : Nat) : (wpV p f o).setIfInBounds 0 (.int .i64 (a : Int)) = wpV { p with at_ := a } f o := by simp [wpV, wpA]
theorem ParW.at_ {w0 w : World} {g : Nat} {p : WireP} {evs : List EvP} {A O : Option Addr} {c oc : Nat} {X : List EvM} (h : ParW w0 w g p evs A c O oc X) (a : Nat) :
    ParW w0 (w.setCell ⟨g, 0, none⟩ (.int .i64 (a : Int))) g { p with at_ := a } evs A c O oc X := by
  have b := h.blk.set_ 0 (.int .i64 (a : Int))
  rw [wp_at] at b
  have hg := Lib.grownBy_setB (World.grownBy.refl w (some g)) 0 (.int .i64 (a : Int))
  exact h.turn hg b (own_only h.flds h.blk (by decide) hg)
theorem wp_left (p : WireP) (f o : Value) (a : Nat) : (wpV p f o).setIfInBounds 6 (.int .i64 (a : Int)) = wpV { p with left := a } f o := by simp [wpV, wpA]
theorem ParW.left_ {w0 w : World} {g : Nat} {p : WireP} {evs : List EvP} {A O : Option Addr} {c oc : Nat} {X : List EvM} (h : ParW w0 w g p evs A c O oc X) (a : Nat) :
    ParW w0 (w.setCell ⟨g, 6, none⟩ (.int .i64 (a : Int))) g { p with left := a } evs A c O oc X := by
  have b := h.blk.set_ 6 (.int .i64 (a : Int))
  rw [wp_left] at b
  have hg := Lib.grownBy_setB (World.grownBy.refl w (some g)) 6 (.int .i64 (a : Int))
  exact h.turn hg b (own_only h.flds h.blk (by decide) hg)
set_option maxRecDepth 100000 in
set_option maxHeartbeats 8000000 in
theorem pEndW {w0 W : World} {g : Nat} {p : WireP} {evs : List EvP} (h : ParS w0 W g p evs) (he : evs.length ≤ 900000) (hn : p.flds.length ≤ 1000) (hf : fldsS p.flds) :
    Calls Tryz.prog 79 #[.pointer (some ⟨g, 0, none⟩)] W (WPost w0 g (headW p).1 (evs ++ (headW p).2)) := by
  obtain ⟨A, c, O, oc, X, h0⟩ := h
  have hst : headW p = if (ofT p.flds).2.2 ≠ 0 then ((failW { p with text := [], over := true } (ofT p.flds).2.2).1, (⟨2, p.meth, p.tgt, p.flds, [], 0⟩ : EvP) :: (failW { p with text := [], over := true } (ofT p.flds).2.2).2)
      else if (ofT p.flds).1 = 3 then ({ p with text := [], over := true, at_ := 4, chunks := newC }, [⟨2, p.meth, p.tgt, p.flds, [], 0⟩])
      else if 0 < (ofT p.flds).2.1 then ({ p with text := [], over := true, at_ := 3, left := (ofT p.flds).2.1 }, [⟨2, p.meth, p.tgt, p.flds, [], 0⟩])
      else ((doneW { p with text := [], over := true } []).1, (⟨2, p.meth, p.tgt, p.flds, [], 0⟩ : EvP) :: (doneW { p with text := [], over := true } []).2) := rfl
  have h1 := h0.over2
  have h2 := h1.later ((Below.refl _ _).alloc (Nat.le_refl _) (.cells #[.iface 177 (.agg #[])] 175))
  have hsz : ((W.setCell ⟨g, 1, none⟩ (.string ⟨#[]⟩)).setCell ⟨g, 15, none⟩ (.bool true)).heap.size = W.heap.size := by simp [World.setCell]
  have kE := Blk.new ((W.setCell ⟨g, 1, none⟩ (.string ⟨#[]⟩)).setCell ⟨g, 15, none⟩ (.bool true)) 175 #[.iface 177 (.agg #[])]
  rw [hsz] at kE
  have CT := Lib.hid (tellHead h2 W.heap.size (kE.cell 0) (by rw [h2.len]; omega) (by show p.flds.length ≤ _; omega))
  have p1 : W.cell? ⟨g, 1, none⟩ = some (.string (bs p.text)) := h0.blk.cell 1
  have p15 : W.cell? ⟨g, 15, none⟩ = some (.bool p.over) := h0.blk.cell 15
  have f1 : W.frozen? ⟨g, 1, none⟩ = false := h0.blk.frozen 1
  have f15 : W.frozen? ⟨g, 15, none⟩ = false := h0.blk.frozen 15
  have HST := Lib.hid hst
  obtain ⟨q, hq⟩ : ∃ q : WireP, { p with text := [], over := true } = q := ⟨_, rfl⟩
  have hqf : q.flds = p.flds := by rw [← hq]
  have HQ := Lib.hid hq
  simp only [hq] at CT
  obtain ⟨y, hy⟩ : ∃ y : EvP, (⟨2, p.meth, p.tgt, p.flds, [], 0⟩ : EvP) = y := ⟨_, rfl⟩
  rw [hy] at CT
  have HY := Lib.hid hy
  obtain ⟨⟨K, N, S⟩, hT⟩ : ∃ x, ofT p.flds = x := ⟨_, rfl⟩
  have HT := Lib.hid hT
  have hn2 : q.flds.length ≤ 1000000 := by rw [hqf]; omega
  have HF := Lib.hid (And.intro hqf (And.intro hf hn))
  clear h0 h1 h2 hsz kE hst hq hqf hy hT hn hf
  go_enter Tryz.func79, Tryz.ntmps79
  go_wp2_with fail
  (with_reducible refine (CT.out).mono ?_); rintro e w1 ⟨rfl, O1, oc1, X1, hX1, h1⟩
  have x4 : w1.cell? ⟨g, 4, none⟩ = some (.slice A p.flds.length c) := by have := h1.blk.cell 4; rw [HF.out.1] at this; exact this
  have cO := pOf A p.flds.length c p.flds w1 (by have := Reads.of_own h1.flds; rw [HF.out.1] at this; exact this) HF.out.2.2 HF.out.2.1
  rw [HT.out] at cO
  unfold OfPost at cO
  simp only at cO
  have CO := Lib.hid cO
  have H1 := Lib.hid h1
  clear h1 cO CT hX1 p1 p15 f1 f15
  go_wp2_with fail
  (with_reducible refine (CO.out).mono ?_); rintro e w2 ⟨rfl, g2⟩
  have h3 := H1.out.later (g2.alloc g2.size (.cells #[.int .i64 (K : Int), .int .i64 (N : Int)] 63))
  have k3 := Blk.new w2 63 #[.int .i64 (K : Int), .int .i64 (N : Int)]
  have z0 : (w2.alloc (.cells #[.int .i64 (K : Int), .int .i64 (N : Int)] 63)).cell? ⟨w2.heap.size, 0, none⟩ = some (.int .i64 (K : Int)) := k3.cell 0
  have z1 : (w2.alloc (.cells #[.int .i64 (K : Int), .int .i64 (N : Int)] 63)).cell? ⟨w2.heap.size, 1, none⟩ = some (.int .i64 (N : Int)) := k3.cell 1
  have hgn : ¬ w2.heap.size = g := by have := (H1.out.later g2).blk.lt; omega
  have hgn2 : ¬ g = w2.heap.size := fun e => hgn e.symm
  have hlen : (evs ++ [y]).length ≤ 1000000 := by rw [List.length_append]; simp; omega
  have x0 : (w2.alloc (.cells #[.int .i64 (K : Int), .int .i64 (N : Int)] 63)).cell? ⟨g, 0, none⟩ = some (.int .i64 (q.at_ : Nat)) := h3.blk.cell 0
  have y0 := h3.blk.frozen 0
  have x6 : (w2.alloc (.cells #[.int .i64 (K : Int), .int .i64 (N : Int)] 63)).cell? ⟨g, 6, none⟩ = some (.int .i64 (q.left : Nat)) := h3.blk.cell 6
  have y6 := h3.blk.frozen 6
  have H3 := Lib.hid h3
  clear h3 k3 g2 CO H1 x4
  generalize hW3 : w2.alloc (.cells #[.int .i64 (K : Int), .int .i64 (N : Int)] 63) = W3 at *
  by_cases hS : S = 0
  · have e1 : ((S : Int) != 0) = false := by rw [hS]; rfl
    have e0 : ((S : Int) == 0) = true := by rw [hS]; rfl
    have HST := Lib.hid (HST.out.trans (if_neg (by rw [HT.out]; simp [hS])))
    by_cases hK : K = 3
    · have e2 : ((K : Int) == 3) = true := by rw [beq_iff_eq]; omega
      have HST := Lib.hid (HST.out.trans (if_pos (by rw [HT.out]; exact hK)))
      have CN := Lib.hid (fun X => pNew X)
      rw [show ckV newC = #[.int .i64 0, .int .i64 0, .int .i64 0, .int .i64 0, .string ⟨#[]⟩, .string ⟨#[]⟩, .int .i64 0, .int .i64 0] from rfl] at CN
      clear hS hK
      go_wp2_with fail
      (with_reducible refine (CN.out _).mono ?_); rintro e w4 ⟨rfl, g4⟩
      have h4 := H3.out.later g4
      have xx0 : w4.cell? ⟨g, 0, none⟩ = some (.int .i64 (q.at_ : Nat)) := h4.blk.cell 0
      have yy0 := h4.blk.frozen 0
      have xx7 : w4.cell? ⟨g, 7, none⟩ = some (.int .i64 (q.chunks.st : Nat)) := h4.blk.cell 7
      have yy7 := h4.blk.frozen 7
      have xx8 : w4.cell? ⟨g, 8, none⟩ = some (.int .i64 (q.chunks.size : Nat)) := h4.blk.cell 8
      have yy8 := h4.blk.frozen 8
      have xx9 : w4.cell? ⟨g, 9, none⟩ = some (.int .i64 (q.chunks.digits : Nat)) := h4.blk.cell 9
      have yy9 := h4.blk.frozen 9
      have xx10 : w4.cell? ⟨g, 10, none⟩ = some (.int .i64 (q.chunks.left : Nat)) := h4.blk.cell 10
      have yy10 := h4.blk.frozen 10
      have xx11 : w4.cell? ⟨g, 11, none⟩ = some (.string (bs q.chunks.body)) := h4.blk.cell 11
      have yy11 := h4.blk.frozen 11
      have xx12 : w4.cell? ⟨g, 12, none⟩ = some (.string (bs q.chunks.line)) := h4.blk.cell 12
      have yy12 := h4.blk.frozen 12
      have xx13 : w4.cell? ⟨g, 13, none⟩ = some (.int .i64 (q.chunks.lines : Nat)) := h4.blk.cell 13
      have yy13 := h4.blk.frozen 13
      have xx14 : w4.cell? ⟨g, 14, none⟩ = some (.int .i64 (q.chunks.status : Nat)) := h4.blk.cell 14
      have yy14 := h4.blk.frozen 14
      have H5 := Lib.hid ((h4.at_ 4).chunk newC)
      clear h4 g4 x0 y0 x6 y6
      go_wp2_with fail
      go_end0
      rw [HST.out, HY.out]
      exact ⟨rfl, A, c, O1, oc1, X1, by have := H5.out; rw [← HQ.out] at this; exact this⟩
    · have e2 : ((K : Int) == 3) = false := by rw [beq_eq_false_iff_ne]; omega
      have HST := Lib.hid (HST.out.trans (if_neg (by rw [HT.out]; exact hK)))
      by_cases hN : 0 < N
      · have e3 : (0 : Int) < (N : Int) := by omega
        have d3 : decide ((0 : Int) < (N : Int)) = true := by simp; omega
        have HST := Lib.hid (HST.out.trans (if_pos (by rw [HT.out]; exact hN)))
        have H5 := Lib.hid (((H3.out.at_ 3).left_ N))
        have hNN : (ofT p.flds).2.1 = N := by rw [HT.out]
        have HNN := Lib.hid hNN
        clear hS hK hN hNN
        go_wp2_with fail
        go_region
        go_wp2_with fail
        go_end0
        rw [HST.out, HY.out, HNN.out]
        exact ⟨rfl, A, c, O1, oc1, X1, by have := H5.out; rw [← HQ.out] at this; first | exact this | exact this.later (Below.refl _ _).drew⟩
      · have e3 : ¬ (0 : Int) < (N : Int) := by omega
        have d3 : decide ((0 : Int) < (N : Int)) = false := by simp; omega
        have HST := Lib.hid (HST.out.trans (if_neg (by rw [HT.out]; exact hN)))
        have CX := Lib.hid (pDone [] ⟨A, c, O1, oc1, X1, H3.out⟩ hlen hn2)
        rw [show bs [] = ⟨#[]⟩ from rfl] at CX
        clear hS hK hN
        go_wp2_with fail
        (with_reducible refine (CX.out).mono ?_); rintro e w5 ⟨rfl, h5⟩
        go_wp2_with fail
        go_end0
        rw [HST.out, HY.out]
        exact ⟨rfl, by rw [HQ.out]; rw [List.append_assoc] at h5; exact h5⟩
  · have e1 : ((S : Int) != 0) = true := by rw [bne_iff_ne]; omega
    have e0 : ((S : Int) == 0) = false := by rw [beq_eq_false_iff_ne]; omega
    have HST := Lib.hid (HST.out.trans (if_pos (by rw [HT.out]; exact hS)))
    have CX := Lib.hid (pFailZ S (S : Int) rfl ⟨A, c, O1, oc1, X1, H3.out⟩ hlen hn2)
    clear hS
    go_wp2_with fail
    (with_reducible refine (CX.out).mono ?_); rintro e w5 ⟨rfl, h5⟩
    go_wp2_with fail
    go_end0
    rw [HST.out, HY.out]
    exact ⟨rfl, by rw [HQ.out, HT.out]; rw [List.append_assoc] at h5; exact h5⟩
end Go.Proofs.YtencphfhpnljlaaGreatDoor
