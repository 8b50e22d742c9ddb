/-
  wire: a byte of a field line.
-/
import Derived.Test.YtencphfhpnljlaaGreatDoorWp9
import Derived.Test.YtencphfhpnljlaaGreatDoorWp7
namespace Go.Proofs.YtencphfhpnljlaaGreatDoor
open Go.RowKit

theorem wp_flds (p : WireP) (f f' o : Value) (L : List Fld) : ((wpV p f o).setIfInBounds 4 f').setIfInBounds 1 (.string ⟨#[]⟩) = wpV { p with flds := L, text := [] } f' o := by simp [wpV, wpA, bs]
/-- a field more -/
theorem field_fin {w0 W w5 : World} {g : Nat} {p : WireP} {evs : List EvP} {A O : Option Addr} {c oc : Nat} {X : List EvM} (h : ParW w0 W g p evs A c O oc X) (hb : Below W.heap.size W w5) (f : Fld) (A5 : Option Addr) (c5 : Nat)
    (ho5 : w5.ownsRow W.heap.size 49 2 (.slice A5 (p.flds.length + 1) c5) (p.flds.length + 1) (fldsC (p.flds ++ [f]))) :
      (w5.cell? ⟨g, 4, none⟩ = some (.slice A p.flds.length c) ∧ w5.cell? ⟨g, 1, none⟩ = some (.string (bs p.text)) ∧ w5.frozen? ⟨g, 4, none⟩ = false ∧ w5.frozen? ⟨g, 1, none⟩ = false) ∧
      ParW w0 ((w5.setCell ⟨g, 4, none⟩ (.slice A5 (p.flds.length + 1) c5)).setCell ⟨g, 1, none⟩ (.string ⟨#[]⟩)) g { p with flds := p.flds ++ [f], text := [] } evs A5 c5 O oc X ∧
      ParW w0 ((w5.setCell ⟨g, 1, none⟩ (.string ⟨#[]⟩)).setCell ⟨g, 4, none⟩ (.slice A5 (p.flds.length + 1) c5)) g { p with flds := p.flds ++ [f], text := [] } evs A5 c5 O oc X := by
  have h5 := h.later hb
  have o5 := own_leW ho5 (Nat.zero_le _)
  have k1 := (h5.blk.set_ 4 (.slice A5 (p.flds.length + 1) c5)).set_ 1 (.string ⟨#[]⟩)
  have k2 := (h5.blk.set_ 1 (.string ⟨#[]⟩)).set_ 4 (.slice A5 (p.flds.length + 1) c5)
  rw [wp_flds _ _ _ _ (p.flds ++ [f])] at k1
  rw [show ((wpV p (.slice A p.flds.length c) (.slice O X.length oc)).setIfInBounds 1 (.string ⟨#[]⟩)).setIfInBounds 4 (.slice A5 (p.flds.length + 1) c5) = wpV { p with flds := p.flds ++ [f], text := [] } (.slice A5 (p.flds.length + 1) c5) (.slice O X.length oc) by simp [wpV, wpA, bs]] at k2
  have g1 := Lib.grownBy_setB (Lib.grownBy_setB (World.grownBy.refl w5 (some g)) 4 (.slice A5 (p.flds.length + 1) c5)) 1 (.string ⟨#[]⟩)
  have g2 := Lib.grownBy_setB (Lib.grownBy_setB (World.grownBy.refl w5 (some g)) 1 (.string ⟨#[]⟩)) 4 (.slice A5 (p.flds.length + 1) c5)
  refine ⟨⟨h5.blk.cell 4, h5.blk.cell 1, h5.blk.frozen 4, h5.blk.frozen 1⟩, ?_, ?_⟩
  · exact h5.turn (q := { p with flds := p.flds ++ [f], text := [] }) g1 (by rw [show (p.flds ++ [f]).length = p.flds.length + 1 by simp]; exact k1) (by show World.ownsRow _ _ _ _ (.slice A5 (p.flds ++ [f]).length c5) (p.flds ++ [f]).length (fldsC (p.flds ++ [f])); rw [show (p.flds ++ [f]).length = p.flds.length + 1 by simp]; exact own_only o5 h5.blk (by decide) g1)
  · exact h5.turn (q := { p with flds := p.flds ++ [f], text := [] }) g2 (by rw [show (p.flds ++ [f]).length = p.flds.length + 1 by simp]; exact k2) (by show World.ownsRow _ _ _ _ (.slice A5 (p.flds ++ [f]).length c5) (p.flds ++ [f]).length (fldsC (p.flds ++ [f])); rw [show (p.flds ++ [f]).length = p.flds.length + 1 by simp]; exact own_only o5 h5.blk (by decide) g2)
def FieldFin (w0 : World) (g : Nat) (p : WireP) (evs : List EvP) (A : Option Addr) (c : Nat) (O : Option Addr) (oc : Nat) (X : List EvM) (f : Fld) (A5 : Option Addr) (c5 : Nat) (w5 : World) : Prop :=
      (w5.cell? ⟨g, 4, none⟩ = some (.slice A p.flds.length c) ∧ w5.cell? ⟨g, 1, none⟩ = some (.string (bs p.text)) ∧ w5.frozen? ⟨g, 4, none⟩ = false ∧ w5.frozen? ⟨g, 1, none⟩ = false) ∧
      ParW w0 ((w5.setCell ⟨g, 4, none⟩ (.slice A5 (p.flds.length + 1) c5)).setCell ⟨g, 1, none⟩ (.string ⟨#[]⟩)) g { p with flds := p.flds ++ [f], text := [] } evs A5 c5 O oc X ∧
      ParW w0 ((w5.setCell ⟨g, 1, none⟩ (.string ⟨#[]⟩)).setCell ⟨g, 4, none⟩ (.slice A5 (p.flds.length + 1) c5)) g { p with flds := p.flds ++ [f], text := [] } evs A5 c5 O oc X
theorem field_app {w0 W va : World} {g : Nat} {p : WireP} {evs : List EvP} {A O : Option Addr} {c oc : Nat} {X : List EvM} (h : ParW w0 W g p evs A c O oc X) (hb : Below W.heap.size W va) (hl : p.flds.length ≤ 1000000) (B : Option Addr) (d : Nat) (f : Fld)
    (ho : va.ownsRow W.heap.size 49 2 (.slice B p.flds.length d) p.flds.length (fldsC p.flds)) :
    ∃ A5 c5 w5, (Builtin.append_ #[25, 25] 25 #[.slice B p.flds.length d, .slice (some ⟨va.heap.size, 0, none⟩) 1 1]).run Tryz.prog (va.alloc (.cells #[.string (bs f.1), .string (bs f.2)] 49)) = .ok (.slice A5 (p.flds.length + 1) c5) w5 ∧ FieldFin w0 g p evs A c O oc X f A5 c5 w5 := by
  obtain ⟨v', w5, hrun, ho5, hb5, _⟩ := app_fld ho hb.size hl f
  obtain ⟨A5, c5, rfl⟩ := own_slice ho5
  rw [show (p.flds ++ [f]).length = p.flds.length + 1 by simp] at hrun ho5
  exact ⟨A5, c5, w5, hrun, field_fin h (hb.trans hb5) f A5 c5 ho5⟩
theorem field_app_at {w0 W va : World} {g b : Nat} {p : WireP} {evs : List EvP} {A O : Option Addr} {c oc : Nat} {X : List EvM} (h : ParW w0 W g p evs A c O oc X) (hb : Below W.heap.size W va) (hl : p.flds.length ≤ 1000000) (B : Option Addr) (d : Nat) (f : Fld)
    (ho : va.ownsRow W.heap.size 49 2 (.slice B p.flds.length d) p.flds.length (fldsC p.flds)) (hr : Reads va va.heap.size 2 (some ⟨b, 0, none⟩) 1 (fldsC [f])) :
    ∃ A5 c5 w5, (Builtin.append_ #[25, 25] 25 #[.slice B p.flds.length d, .slice (some ⟨b, 0, none⟩) 1 1]).run Tryz.prog va = .ok (.slice A5 (p.flds.length + 1) c5) w5 ∧ FieldFin w0 g p evs A c O oc X f A5 c5 w5 := by
  obtain ⟨i0, hi, hz0, hz1, hz2⟩ := info_parts infoFldA
  obtain ⟨v', w5, hrun, hown, hg, _⟩ := run_append_any (P := Tryz.prog) va W.heap.size 25 25 49 i0 (.agg #[.string .empty, .string .empty]) 2 32 Tryz.underlying25 hi hz0 hz1 hz2 rfl (by decide) _ p.flds.length (fldsC p.flds) ho va.heap.size (some ⟨b, 0, none⟩) 1 1 (fldsC [f]) hr (fldsC_one [f]) (by unfold maxLen; omega) (by omega) hb.size
  rw [← fldsC_app] at hown
  obtain ⟨A5, c5, rfl⟩ := own_slice hown
  exact ⟨A5, c5, w5, hrun, field_fin h (hb.trans ((Below.refl W.heap.size va).grown hg hb.size (own_ge ho))) f A5 c5 hown⟩
theorem emp_bs {l : List UInt8} (h : l = []) : (bs l).toList.isEmpty = true ∧ (bs l).toList = [] := by rw [bs_toList, h]; exact ⟨rfl, rfl⟩
theorem nemp_bs {l : List UInt8} (h : l ≠ []) : (bs l).toList.isEmpty = false ∧ ¬ (bs l).toList = [] := by
  rw [bs_toList]
  exact ⟨by rw [List.isEmpty_eq_false_iff]; exact h, h⟩
set_option maxRecDepth 100000 in
set_option maxHeartbeats 16000000 in
theorem pFieldW {w0 W : World} {g : Nat} {p : WireP} {evs : List EvP} (b : UInt8) (h : ParS w0 W g p evs) (hat : p.at_ = 2) (ht : p.text.length ≤ 900000) (he : evs.length ≤ 900000) (hn : p.flds.length ≤ 1000) (hf : fldsS p.flds) :
    Calls Tryz.prog 48 #[.pointer (some ⟨g, 0, none⟩), .int .u8 (b.toNat : Int)] W (WPost w0 g (stepW p b).1 (evs ++ (stepW p b).2)) := by
  obtain ⟨A, c, O, oc, X, h0⟩ := h
  have hst : stepW p b = if b ≠ 10 then
      (if p.flds.length = 32 ∧ (p.text ≠ [] ∨ b ≠ 13) then failW p 431
       else if 512 < (bareS (p.text ++ [b])).length then failW { p with text := p.text ++ [b] } 431 else ({ p with text := p.text ++ [b] }, []))
    else if p.text.getLast? ≠ some 13 then failW p 400
    else if p.text.dropLast = [] then headW p
    else if (readL p.text.dropLast).2 = 0 then ({ p with flds := p.flds ++ [(readL p.text.dropLast).1], text := [] }, [])
    else if (readL p.text.dropLast).2 = 4 then failW p 431 else failW p 400 := by
    unfold stepW; rw [if_neg (by omega), if_pos hat]
  have p1 : W.cell? ⟨g, 1, none⟩ = some (.string (bs p.text)) := h0.blk.cell 1
  have p4 : W.cell? ⟨g, 4, none⟩ = some (.slice A p.flds.length c) := h0.blk.cell 4
  have f1 : W.frozen? ⟨g, 1, none⟩ = false := h0.blk.frozen 1
  have HST := Lib.hid hst
  have hn6 : p.flds.length ≤ 1000000 := by omega
  have CF := Lib.hid (fun V (hV : ParS w0 V g p evs) s z hz => pFailZ s z hz hV (by omega) hn6)
  clear hst
  by_cases hb : b = 10
  · rw [if_neg (by simp [hb])] at HST
    have cC := fun V => pCutCR p.text V (by omega)
    have H0 := Lib.hid h0
    subst hb
    have e1 : (((10 : UInt8).toNat : Int) != 10) = false := rfl
    by_cases hcr : p.text.getLast? = some 13
    · rw [bare_cr hcr, decide_eq_true hcr] at cC
      rw [if_neg (by simp [hcr])] at HST
      have hl1 : p.text.dropLast.length ≤ 1000000 := by rw [List.length_dropLast]; omega
      have cE := fun V (hV : ParS w0 V g p evs) => pEndW hV he hn hf
      have cR := fun V => pRead (bs p.text.dropLast) V (by rw [bs_size]; omega)
      rw [bs_list] at cR
      obtain ⟨S, hS⟩ : ∃ S, p.text.dropLast = S := ⟨_, rfl⟩
      rw [hS] at cC cR HST
      have CC := Lib.hid cC
      have CE := Lib.hid cE
      clear cC cE hS hl1 hcr h0
      by_cases hem : S = []
      · have HST := Lib.hid (HST.out.trans (if_pos hem))
        obtain ⟨m1, m2⟩ := emp_bs hem
        have CE2 := Lib.hid (CE.out W ⟨A, c, O, oc, X, H0.out⟩)
        clear cR hem hf
        go_enter Tryz.func48, Tryz.ntmps48
        go_wp2_with fail
        (with_reducible refine (CC.out _).mono ?_); rintro e w1 ⟨rfl, rfl⟩
        rename World => W
        go_wp2_with fail
        (with_reducible refine (CE2.out).mono ?_); rintro e w5 ⟨rfl, h5⟩
        go_wp2_with fail
        go_end0
        rw [HST.out]
        exact ⟨rfl, h5⟩
      · have HST := Lib.hid (HST.out.trans (if_neg hem))
        obtain ⟨m1, m2⟩ := nemp_bs hem
        obtain ⟨⟨n, v⟩, E, hX⟩ : ∃ x E, readL S = (x, E) := ⟨_, _, rfl⟩
        rw [hX] at cR HST
        simp only at cR HST
        have CR := Lib.hid (cR W)
        clear cR hem hX hf CE
        by_cases hE : E = 0
        · subst hE
          have hS0 : stepW p 10 = ({ p with flds := p.flds ++ [(n, v)], text := [] }, []) := HST.out.trans (if_pos rfl)
          have HS0 := Lib.hid hS0
          clear hS0 HST
          have e2 : (((0 : Nat) : Int) == 0) = true := rfl
          go_enter Tryz.func48, Tryz.ntmps48
          go_wp2_with fail
          (with_reducible refine (CC.out _).mono ?_); rintro e w1 ⟨rfl, rfl⟩
          rename World => W
          go_wp2_with fail
          (with_reducible refine (CR.out).mono ?_); rintro e w2 ⟨rfl, g2⟩
          have hB3 : Below W.heap.size W (w2.alloc (.cells #[.string (bs n), .string (bs v)] 49)) := g2.alloc g2.size _
          have h3 := H0.out.later hB3
          have k3 := Blk.new w2 49 #[.string (bs n), .string (bs v)]
          have hg3 := (H0.out.later g2).blk.lt
          obtain ⟨W3, hW3⟩ : ∃ W3, w2.alloc (.cells #[.string (bs n), .string (bs v)] 49) = W3 := ⟨_, rfl⟩
          rw [hW3] at h3 k3
          have s3 : w2.heap.size < W3.heap.size := by rw [← hW3]; simp
          have z0 : W3.cell? ⟨w2.heap.size, 0, none⟩ = some (.string (bs n)) := k3.cell 0
          have z1 : W3.cell? ⟨w2.heap.size, 1, none⟩ = some (.string (bs v)) := k3.cell 1
          have CFl := Lib.hid (show ∀ V, Below W3.heap.size W3 V → Calls Tryz.prog 27 #[.pointer (some ⟨g, 0, none⟩)] V fun e w' => ∃ B d, e = .returned (.slice B p.flds.length d) ∧ w'.ownsRow W3.heap.size 49 2 (.slice B p.flds.length d) p.flds.length (fldsC p.flds) ∧ Below W3.heap.size W3 w' ∧ Below V.heap.size V w' from fun V hV => (pFieldsW g A p.flds.length c p.flds V ((h3.later hV).blk.cell 4) (h3.later hV).blk.lt (Reads.of_own (h3.later hV).flds) hn6).mono fun e w' ⟨B, d, he, ho, hb⟩ => ⟨B, d, he, own_leW ho hV.size, hV.trans (hb.mono hV.size), hb⟩)
          have BD := Lib.hid ((Below.refl W3.heap.size W3).drew)
          have AP := Lib.hid (fun V (hV : Below W3.heap.size W3 V) B d ho => field_app h3 hV hn6 B d (n, v) ho)
          have bB := (Below.refl W3.heap.size W3).alloc (Nat.le_refl _) (.cells #[.string (bs n), .string (bs v)] 49)
          have rB := reads_newF W3 49 [(n, v)] #[.string (bs n), .string (bs v)] rfl
          have BDB : Hid (Below W3.heap.size W3 (W3.alloc (.cells #[.string (bs n), .string (bs v)] 49)).drew) := hide bB.drew
          have APB := Lib.hid (fun V (hV : Below (W3.alloc (.cells #[.string (bs n), .string (bs v)] 49)).drew.heap.size (W3.alloc (.cells #[.string (bs n), .string (bs v)] 49)).drew V) B d ho => field_app_at h3 (bB.drew.trans (hV.mono bB.size)) hn6 B d (n, v) ho (((rB.drew).below hV).more hV.size))
          have CZ := Lib.hid (show ∀ V, Below W3.heap.size W3 V → V.cell? ⟨w2.heap.size, 0, none⟩ = some (.string (bs n)) ∧ V.cell? ⟨w2.heap.size, 1, none⟩ = some (.string (bs v)) from fun V hV => ⟨(hV.cell (p := ⟨w2.heap.size, 0, none⟩) s3).trans z0, (hV.cell (p := ⟨w2.heap.size, 1, none⟩) s3).trans z1⟩)
          have ng1 : ¬ g = w2.heap.size := by omega
          have ng2 : ¬ w2.heap.size = g := by omega
          clear h3 k3 s3 hB3 g2 bB rB CR CC p1 p4 f1 hg3
          go_upto_region 15 with (fail)
          clear hW3
          go_region_law (first
            | (refine step_append_run hrun (by rfl) _ _ (by rfl) (by rfl) (by rfl) (by rfl) ?_)
            | (go_simp; go_at_call 27; (with_reducible refine (CFl.out _ BD.out).mono ?_); rintro e va ⟨B, d, rfl, ho, ga, gv⟩
               obtain ⟨A5, c5, w5, hrun, ⟨q4, q1, r4, r1⟩, hfin, hfin2⟩ := AP.out va ga B d ho
               obtain ⟨y0, y1⟩ := CZ.out va ga
               have HFIN := Lib.hid hfin
               have HFIN2 := Lib.hid hfin2
               clear hfin hfin2 ho ga gv)
            | (go_simp; go_at_call 27; (with_reducible refine (CFl.out _ BDB.out).mono ?_); rintro e va ⟨B, d, rfl, ho, ga, gv⟩
               obtain ⟨A5, c5, w5, hrun, ⟨q4, q1, r4, r1⟩, hfin, hfin2⟩ := APB.out va gv B d ho
               have HFIN := Lib.hid hfin
               have HFIN2 := Lib.hid hfin2
               clear hfin hfin2 ho ga gv))
          all_goals (
            go_wp2_with fail
            go_end0
            rw [HS0.out, List.append_nil]
            first | exact ⟨rfl, _, _, _, _, _, HFIN.out⟩ | exact ⟨rfl, _, _, _, _, _, HFIN2.out⟩)
        · have HST := Lib.hid (HST.out.trans (if_neg hE))
          have e2 : ((E : Int) == 0) = false := by rw [beq_eq_false_iff_ne]; omega
          clear hE
          by_cases hE4 : E = 4
          · have HST := Lib.hid (HST.out.trans (if_pos hE4))
            have e3 : ((E : Int) == 4) = true := by rw [beq_iff_eq]; omega
            clear hE4
            go_enter Tryz.func48, Tryz.ntmps48
            go_wp2_with fail
            (with_reducible refine (CC.out _).mono ?_); rintro e w1 ⟨rfl, rfl⟩
            rename World => W
            go_wp2_with fail
            (with_reducible refine (CR.out).mono ?_); rintro e w2 ⟨rfl, g2⟩
            have CX := Lib.hid (CF.out _ ⟨A, c, O, oc, X, H0.out.later (g2.alloc g2.size (.cells #[.string (bs n), .string (bs v)] 49))⟩ 431 431 rfl)
            clear g2
            go_wp2_with fail
            (with_reducible refine (CX.out).mono ?_); rintro e w5 ⟨rfl, h5⟩
            go_wp2_with fail
            go_end0
            rw [HST.out]
            exact ⟨rfl, h5⟩
          · have HST := Lib.hid (HST.out.trans (if_neg hE4))
            have e3 : ((E : Int) == 4) = false := by rw [beq_eq_false_iff_ne]; omega
            clear hE4
            go_enter Tryz.func48, Tryz.ntmps48
            go_wp2_with fail
            (with_reducible refine (CC.out _).mono ?_); rintro e w1 ⟨rfl, rfl⟩
            rename World => W
            go_wp2_with fail
            (with_reducible refine (CR.out).mono ?_); rintro e w2 ⟨rfl, g2⟩
            have CX := Lib.hid (CF.out _ ⟨A, c, O, oc, X, H0.out.later (g2.alloc g2.size (.cells #[.string (bs n), .string (bs v)] 49))⟩ 400 400 rfl)
            clear g2
            go_wp2_with fail
            (with_reducible refine (CX.out).mono ?_); rintro e w5 ⟨rfl, h5⟩
            go_wp2_with fail
            go_end0
            rw [HST.out]
            exact ⟨rfl, h5⟩
    · rw [decide_eq_false hcr] at cC
      rw [if_pos hcr] at HST
      have CC := Lib.hid cC
      have CF2 := Lib.hid (CF.out W ⟨A, c, O, oc, X, H0.out⟩ 400 400 rfl)
      clear cC hcr h0 hf
      go_enter Tryz.func48, Tryz.ntmps48
      go_wp2_with fail
      (with_reducible refine (CC.out _).mono ?_); rintro e w1 ⟨rfl, rfl⟩
      rename World => W
      go_wp2_with fail
      (with_reducible refine (CF2.out).mono ?_); rintro e w5 ⟨rfl, h5⟩
      go_wp2_with fail
      go_end0
      rw [HST.out]
      exact ⟨rfl, h5⟩
  · rw [if_pos hb] at HST
    have n10 : b.toNat ≠ 10 := fun e => hb (UInt8.toNat_inj.1 e)
    have e1 : ((b.toNat : Int) != 10) = true := by rw [bne_iff_ne]; omega
    by_cases hfull : p.flds.length = 32 ∧ (p.text ≠ [] ∨ b ≠ 13)
    · have HST := Lib.hid (HST.out.trans (if_pos hfull))
      have e2 : ((p.flds.length : Int) == 32) = true := by rw [beq_iff_eq]; omega
      have CF2 := Lib.hid (CF.out W ⟨A, c, O, oc, X, h0⟩ 431 431 rfl)
      by_cases hem : p.text = []
      · have h13 : b ≠ 13 := hfull.2.elim (fun e => absurd hem e) id
        have n13 : b.toNat ≠ 13 := fun e => h13 (UInt8.toNat_inj.1 e)
        have e3 : ((b.toNat : Int) != 13) = true := by rw [bne_iff_ne]; omega
        obtain ⟨m1, m2⟩ := emp_bs hem
        clear hfull hem h13 n13 h0 hf n10 hb
        generalize (b.toNat : Int) = bn at *
        go_enter Tryz.func48, Tryz.ntmps48
        go_wp2_with fail
        (with_reducible refine (CF2.out).mono ?_); rintro e w5 ⟨rfl, h5⟩
        go_wp2_with fail
        go_end0
        rw [HST.out]
        exact ⟨rfl, h5⟩
      · obtain ⟨m1, m2⟩ := nemp_bs hem
        clear hfull hem h0 hf n10 hb
        generalize (b.toNat : Int) = bn at *
        go_enter Tryz.func48, Tryz.ntmps48
        go_wp2_with fail
        (with_reducible refine (CF2.out).mono ?_); rintro e w5 ⟨rfl, h5⟩
        go_wp2_with fail
        go_end0
        rw [HST.out]
        exact ⟨rfl, h5⟩
    · have HST := Lib.hid (HST.out.trans (if_neg hfull))
      have CV := byte_conv W b
      have hcat := bs_one p.text b
      have hl1 : (p.text ++ [b]).length ≤ 1000000 := by rw [List.length_append]; simp; omega
      have h1 := ((h0.later ((Below.refl W.heap.size W).alloc (Nat.le_refl _) (.cells #[.int .u8 (b.toNat : Int)] 5))).text (p.text ++ [b])).later (Below.refl _ _).drew
      have cB := fun V => pBare (p.text ++ [b]) V hl1
      have CFt := Lib.hid (fun V (hV : ParS w0 V g { p with text := p.text ++ [b] } evs) s z hz => pFailZ s z hz hV (by omega) hn6)
      have zs := bs_size p.text
      have zu := bs_size (bareS (p.text ++ [b]))
      obtain ⟨T, hT⟩ : ∃ T, bs (p.text ++ [b]) = T := ⟨_, rfl⟩
      rw [hT] at hcat h1 cB
      obtain ⟨U, hU⟩ : ∃ U, bs (bareS (p.text ++ [b])) = U := ⟨_, rfl⟩
      rw [hU] at cB zu
      have m12 : (p.text = [] → (bs p.text).toList.isEmpty = true ∧ (bs p.text).toList = []) ∧ (p.text ≠ [] → (bs p.text).toList.isEmpty = false ∧ ¬ (bs p.text).toList = []) := ⟨emp_bs, nemp_bs⟩
      obtain ⟨S, hS⟩ : ∃ S, bs p.text = S := ⟨_, rfl⟩
      rw [hS] at hcat p1 zs m12
      have M12 := Lib.hid m12
      have s1 : S.size ≤ 900000 := by omega
      have s2 : ¬ 9223372036854775806 < S.size := by omega
      have s3 : ¬ 9223372036854775807 < S.size + 1 := by omega
      have s4 : S.size < 9223372036854775807 := by omega
      have CB := Lib.hid cB
      have H1 := Lib.hid h1
      have hgl := h0.blk.lt
      have ng : ¬ g = W.heap.size := by omega
      have p1' : (W.alloc (.cells #[.int .u8 (b.toNat : Int)] 5)).cell? ⟨g, 1, none⟩ = some (.string S) := (World.cell?_alloc_lt W _ ⟨g, 1, none⟩ hgl).trans p1
      have f1' : (W.alloc (.cells #[.int .u8 (b.toNat : Int)] 5)).frozen? ⟨g, 1, none⟩ = false := (h0.blk.alloc _).frozen 1
      have HFU := Lib.hid hfull
      clear cB h1 hT hS hU zs hl1 h0 hgl n10 hb hf m12 hfull
      by_cases h32 : p.flds.length = 32
      · have e2 : ((p.flds.length : Int) == 32) = true := by rw [beq_iff_eq]; omega
        have hem : p.text = [] := Classical.byContradiction fun e => HFU.out ⟨h32, .inl e⟩
        have h13 : b = 13 := Classical.byContradiction fun e => HFU.out ⟨h32, .inr e⟩
        have e3 : ((b.toNat : Int) != 13) = false := by rw [h13]; rfl
        obtain ⟨m1, m2⟩ := M12.out.1 hem
        clear hem h13 h32
        generalize (b.toNat : Int) = bn at *
        by_cases hbl : 512 < (bareS (p.text ++ [b])).length
        · have i1 : (512 : Int) < (U.size : Int) := by omega
          have HST := Lib.hid (HST.out.trans (if_pos hbl))
          have CX := Lib.hid (CFt.out _ ⟨A, c, O, oc, X, H1.out⟩ 431 431 rfl)
          clear hbl zu
          go_enter Tryz.func48, Tryz.ntmps48
          go_wp2_with fail
          go_region
          go_wp2_with fail
          (with_reducible refine (CB.out _).mono ?_); rintro e w1 ⟨rfl, rfl⟩
          go_wp2_with fail
          (with_reducible refine (CX.out).mono ?_); rintro e w5 ⟨rfl, h5⟩
          go_wp2_with fail
          go_end0
          rw [HST.out]
          exact ⟨rfl, h5⟩
        · have i1 : ¬ (512 : Int) < (U.size : Int) := by omega
          have HST := Lib.hid (HST.out.trans (if_neg hbl))
          clear hbl zu
          go_enter Tryz.func48, Tryz.ntmps48
          go_wp2_with fail
          go_region
          go_wp2_with fail
          (with_reducible refine (CB.out _).mono ?_); rintro e w1 ⟨rfl, rfl⟩
          go_wp2_with fail
          go_end0
          rw [HST.out, List.append_nil]
          exact ⟨rfl, A, c, O, oc, X, H1.out⟩
      · have e2 : ((p.flds.length : Int) == 32) = false := by rw [beq_eq_false_iff_ne]; omega
        clear h32
        generalize (b.toNat : Int) = bn at *
        by_cases hbl : 512 < (bareS (p.text ++ [b])).length
        · have i1 : (512 : Int) < (U.size : Int) := by omega
          have HST := Lib.hid (HST.out.trans (if_pos hbl))
          have CX := Lib.hid (CFt.out _ ⟨A, c, O, oc, X, H1.out⟩ 431 431 rfl)
          clear hbl zu
          go_enter Tryz.func48, Tryz.ntmps48
          go_wp2_with fail
          go_region
          go_wp2_with fail
          (with_reducible refine (CB.out _).mono ?_); rintro e w1 ⟨rfl, rfl⟩
          go_wp2_with fail
          (with_reducible refine (CX.out).mono ?_); rintro e w5 ⟨rfl, h5⟩
          go_wp2_with fail
          go_end0
          rw [HST.out]
          exact ⟨rfl, h5⟩
        · have i1 : ¬ (512 : Int) < (U.size : Int) := by omega
          have HST := Lib.hid (HST.out.trans (if_neg hbl))
          clear hbl zu
          go_enter Tryz.func48, Tryz.ntmps48
          go_wp2_with fail
          go_region
          go_wp2_with fail
          (with_reducible refine (CB.out _).mono ?_); rintro e w1 ⟨rfl, rfl⟩
          go_wp2_with fail
          go_end0
          rw [HST.out, List.append_nil]
          exact ⟨rfl, A, c, O, oc, X, H1.out⟩
end Go.Proofs.YtencphfhpnljlaaGreatDoor
