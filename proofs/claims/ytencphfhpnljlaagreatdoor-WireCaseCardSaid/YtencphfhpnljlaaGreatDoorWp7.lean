/-
  wire: a byte of a body that has a length.
-/
import Derived.Test.YtencphfhpnljlaaGreatDoorWp6
namespace Go.Proofs.YtencphfhpnljlaaGreatDoor
open Go.RowKit

theorem wp_body (p : WireP) (f o : Value) (T : List UInt8) (k : Nat) : ((wpV p f o).setIfInBounds 5 (.string (bs T))).setIfInBounds 6 (.int .i64 (k : Int)) = wpV { p with body := T, left := k } f o := by simp [wpV, wpA]
theorem ParW.body {w0 w : World} {g : Nat} {p : WireP} {evs : List EvP} {A O : Option Addr} {c oc : Nat} {X : List EvM} (h : ParW w0 w g p evs A c O oc X) (T : List UInt8) (k : Nat) :
    ParW w0 ((w.setCell ⟨g, 5, none⟩ (.string (bs T))).setCell ⟨g, 6, none⟩ (.int .i64 (k : Int))) g { p with body := T, left := k } evs A c O oc X := by
  have b := (h.blk.set_ 5 (.string (bs T))).set_ 6 (.int .i64 (k : Int))
  rw [wp_body] at b
  have hg := Lib.grownBy_setB (Lib.grownBy_setB (World.grownBy.refl w (some g)) 5 (.string (bs T))) 6 (.int .i64 (k : Int))
  exact h.turn hg b (own_only h.flds h.blk (by decide) hg)
set_option maxRecDepth 100000 in
set_option maxHeartbeats 8000000 in
theorem pBodyW {w0 W : World} {g : Nat} {p : WireP} {evs : List EvP} (b : UInt8) (h : ParS w0 W g p evs) (hat : p.at_ = 3) (hl0 : 1 ≤ p.left) (hl9 : p.left ≤ 1000000) (ht : p.body.length ≤ 900000) (he : evs.length ≤ 900000) (hn : p.flds.length ≤ 1000000) :
    Calls Tryz.prog 49 #[.pointer (some ⟨g, 0, none⟩), .int .u8 (b.toNat : Int)] W (WPost w0 g (stepW p b).1 (evs ++ (stepW p b).2)) := by
  obtain ⟨A, c, O, oc, X, h0⟩ := h
  have hst : stepW p b = if p.left = 1 then doneW { p with body := p.body ++ [b], left := 0 } (p.body ++ [b]) else ({ p with body := p.body ++ [b], left := p.left - 1 }, []) := by
    unfold stepW; rw [if_neg (by omega), if_neg (by omega), if_pos hat]
  have p5 : W.cell? ⟨g, 5, none⟩ = some (.string (bs p.body)) := h0.blk.cell 5
  have f5 : W.frozen? ⟨g, 5, none⟩ = false := h0.blk.frozen 5
  have p6 : W.cell? ⟨g, 6, none⟩ = some (.int .i64 (p.left : Nat)) := h0.blk.cell 6
  have p6' : (W.alloc (.cells #[.int .u8 (b.toNat : Int)] 5)).cell? ⟨g, 6, none⟩ = some (.int .i64 (p.left : Nat)) := (h0.blk.alloc _).cell 6
  have f6' : (W.alloc (.cells #[.int .u8 (b.toNat : Int)] 5)).frozen? ⟨g, 6, none⟩ = false := (h0.blk.alloc _).frozen 6
  have HST := Lib.hid hst
  clear hst
  have CV := byte_conv W b
  have hcat := bs_one p.body b
  have h1 := (((h0.later ((Below.refl W.heap.size W).alloc (Nat.le_refl _) (.cells #[.int .u8 (b.toNat : Int)] 5)))).body (p.body ++ [b]) (p.left - 1)).later (Below.refl _ _).drew
  have CF := Lib.hid (fun V (hV : ParS w0 V g { p with body := p.body ++ [b], left := p.left - 1 } evs) => pDone (p.body ++ [b]) hV (by omega) hn)
  have zs := bs_size p.body
  obtain ⟨T, hT⟩ : ∃ T, bs (p.body ++ [b]) = T := ⟨_, rfl⟩
  rw [hT] at hcat h1 CF
  obtain ⟨S, hS⟩ : ∃ S, bs p.body = S := ⟨_, rfl⟩
  rw [hS] at hcat p5 zs
  have s1 : S.size ≤ 900000 := by omega
  have s2 : ¬ 9223372036854775806 < S.size := by omega
  have s3 : ¬ 9223372036854775807 < S.size + 1 := by omega
  have s4 : S.size < 9223372036854775807 := by omega
  have H1 := Lib.hid h1
  have hgl := h0.blk.lt
  have ng : ¬ g = W.heap.size := by omega
  have p5' : (W.alloc (.cells #[.int .u8 (b.toNat : Int)] 5)).cell? ⟨g, 5, none⟩ = some (.string S) := (World.cell?_alloc_lt W _ ⟨g, 5, none⟩ hgl).trans p5
  have f5' : (W.alloc (.cells #[.int .u8 (b.toNat : Int)] 5)).frozen? ⟨g, 5, none⟩ = false := (h0.blk.alloc _).frozen 5
  have wl : IntKind.i64.wrap ((p.left : Int) - 1) = ((p.left - 1 : Nat) : Int) := by rw [IntKind.wrap_i64]; omega
  have wl2 : (p.left : Int) - 1 = ((p.left - 1 : Nat) : Int) := by omega
  obtain ⟨k, hk⟩ : ∃ k, p.left - 1 = k := ⟨_, rfl⟩
  rw [hk] at wl wl2 CF H1
  clear h1 hT hS zs h0 hgl
  generalize (b.toNat : Int) = bn at *
  by_cases hl1 : p.left = 1
  · have hk0 : k = 0 := by omega
    have HST := Lib.hid (HST.out.trans (if_pos hl1))
    subst hk0
    have e2 : ((((0 : Nat) : Int)) == 0) = true := rfl
    clear hl1 hk hat ht
    go_enter Tryz.func49, Tryz.ntmps49
    go_wp2_with fail
    go_region
    have CX := Lib.hid (CF.out _ ⟨A, c, O, oc, X, H1.out⟩)
    rw [show (((0 : Nat)) : Int) = (0 : Int) from rfl] at CX
    go_wp2_with fail
    (with_reducible refine (CX.out).mono ?_); rintro e w5 ⟨rfl, h5⟩
    go_wp2_with fail
    go_end0
    rw [HST.out]
    exact ⟨rfl, h5⟩
  · have HST := Lib.hid (HST.out.trans (if_neg hl1))
    have e2 : ((k : Int) == 0) = false := by rw [beq_eq_false_iff_ne]; omega
    rw [hk] at HST
    clear hl1 hk hat ht
    go_enter Tryz.func49, Tryz.ntmps49
    go_wp2_with fail
    go_region
    go_wp2_with fail
    go_end0
    rw [HST.out, List.append_nil]
    exact ⟨rfl, A, c, O, oc, X, H1.out⟩
end Go.Proofs.YtencphfhpnljlaaGreatDoor
