/-
  wire: a byte.
-/
import Derived.Test.YtencphfhpnljlaaGreatDoorWp10
import Derived.Test.YtencphfhpnljlaaGreatDoorWq
import Derived.Laws.EntriesVeiled
namespace Go.Proofs.YtencphfhpnljlaaGreatDoor
open Go.RowKit

/-- what the parser's walks ask of a world -/
structure TabW (w : World) : Prop where
  m : MaxL w
  e : ErrS w
theorem TabW.below {w w' : World} (h : TabW w) (hb : Below w.heap.size w w') : TabW w' := ⟨h.m.below hb, h.e.below hb⟩
set_option maxRecDepth 100000 in
set_option maxHeartbeats 8000000 in
theorem pTakeW {w0 W : World} {g M : Nat} {p : WireP} {evs : List EvP} (b : UInt8) (h : ParS w0 W g p evs) (ok : OkW M p) (hM : M ≤ 800000) (he : evs.length ≤ 800000) (hT : ∀ V, w0.grownBy V (some g) → TabW V) :
    Calls Tryz.prog 28 #[.pointer (some ⟨g, 0, none⟩), .int .u8 (b.toNat : Int)] W (WPost w0 g (stepW p b).1 (evs ++ (stepW p b).2)) := by
  obtain ⟨A, c, O, oc, X, h0⟩ := h
  have b1 : Below W.heap.size W (W.alloc (.cells #[.func (.func 47) #[] #[], .func (.func 48) #[] #[], .func (.func 49) #[] #[], .func (.func 50) #[] #[], .func (.func 51) #[] #[]] 108)) := (Below.refl _ _).alloc (Nat.le_refl _) _
  have h1 := h0.later b1
  have k1 := Blk.new W 108 #[.func (.func 47) #[] #[], .func (.func 48) #[] #[], .func (.func 49) #[] #[], .func (.func 50) #[] #[], .func (.func 51) #[] #[]]
  obtain ⟨W1, hW1⟩ : ∃ W1, (W.alloc (.cells #[.func (.func 47) #[] #[], .func (.func 48) #[] #[], .func (.func 49) #[] #[], .func (.func 50) #[] #[], .func (.func 51) #[] #[]] 108)) = W1 := ⟨_, rfl⟩
  rw [hW1] at h1 k1
  have p0 : W1.cell? ⟨g, 0, none⟩ = some (.int .i64 (p.at_ : Nat)) := h1.blk.cell 0
  have z0 : W1.cell? ⟨W.heap.size, 0, none⟩ = some (.func (.func 47) #[] #[]) := k1.cell 0
  have z1 : W1.cell? ⟨W.heap.size, 1, none⟩ = some (.func (.func 48) #[] #[]) := k1.cell 1
  have z2 : W1.cell? ⟨W.heap.size, 2, none⟩ = some (.func (.func 49) #[] #[]) := k1.cell 2
  have z3 : W1.cell? ⟨W.heap.size, 3, none⟩ = some (.func (.func 50) #[] #[]) := k1.cell 3
  have z4 : W1.cell? ⟨W.heap.size, 4, none⟩ = some (.func (.func 51) #[] #[]) := k1.cell 4
  have hs1 : ParS w0 W1 g p evs := ⟨A, c, O, oc, X, h1⟩
  have hn := ok.flds
  have ht := ok.text
  have hb := ok.body
  have ha := ok.at_
  have hc : p.at_ = 1 ∨ p.at_ = 2 ∨ p.at_ = 3 ∨ p.at_ = 4 ∨ p.at_ = 5 := by omega
  rcases hc with h | h | h | h | h
  · have CX := Lib.hid (pLineW b hs1 h (by omega) (by omega) (by omega) (fun V hV => (hT V hV).m))
    rw [h] at p0
    clear h0 b1 h1 k1 hs1 hn ht hb ha h ok hM he hT
    go_enter Tryz.func28, Tryz.ntmps28
    go_wp2_with fail
    (with_reducible refine (CX.out).mono ?_); rintro e w5 ⟨rfl, h5⟩
    go_wp2_with fail
    go_end0
    exact ⟨rfl, h5⟩
  · have CX := Lib.hid (pFieldW b hs1 h (by omega) (by omega) (by omega) ok.fs)
    rw [h] at p0
    clear h0 b1 h1 k1 hs1 hn ht hb ha h ok hM he hT
    go_enter Tryz.func28, Tryz.ntmps28
    go_wp2_with fail
    (with_reducible refine (CX.out).mono ?_); rintro e w5 ⟨rfl, h5⟩
    go_wp2_with fail
    go_end0
    exact ⟨rfl, h5⟩
  · have CX := Lib.hid (pBodyW b hs1 h (ok.left1 h) (by have := ok.left; omega) (by omega) (by omega) (by omega))
    rw [h] at p0
    clear h0 b1 h1 k1 hs1 hn ht hb ha h ok hM he hT
    go_enter Tryz.func28, Tryz.ntmps28
    go_wp2_with fail
    (with_reducible refine (CX.out).mono ?_); rintro e w5 ⟨rfl, h5⟩
    go_wp2_with fail
    go_end0
    exact ⟨rfl, h5⟩
  · have CX := Lib.hid (pChunkW b hs1 h (ok.chk h).1 (ok.chk h).2 (by omega) (by omega) (fun V hV => (hT V hV).e))
    rw [h] at p0
    clear h0 b1 h1 k1 hs1 hn ht hb ha h ok hM he hT
    go_enter Tryz.func28, Tryz.ntmps28
    go_wp2_with fail
    (with_reducible refine (CX.out).mono ?_); rintro e w5 ⟨rfl, h5⟩
    go_wp2_with fail
    go_end0
    exact ⟨rfl, h5⟩
  · have CX := Lib.hid (pNothing g (b.toNat : Int) W1)
    have HS := Lib.hid hs1
    have hst : stepW p b = (p, []) := by unfold stepW; rw [if_neg (by omega), if_neg (by omega), if_neg (by omega), if_neg (by omega)]
    have HST := Lib.hid hst
    rw [h] at p0
    clear h0 b1 h1 k1 hs1 hn ht hb ha h ok hM he hT hst
    go_enter Tryz.func28, Tryz.ntmps28
    go_wp2_with fail
    (with_reducible refine (CX.out).mono ?_); rintro e w5 ⟨rfl, rfl⟩
    go_wp2_with fail
    go_end0
    rw [HST.out, List.append_nil]
    exact ⟨rfl, HS.out⟩
end Go.Proofs.YtencphfhpnljlaaGreatDoor
