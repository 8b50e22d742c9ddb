/-
  Handlers: Body of the program.
-/
import Derived.Test.YthhlnpfcpgfcfaaGreatDoorHa4
import Derived.Test.YthhlnpfcpgfcfaaGreatDoorHa5
namespace Go.Proofs.YthhlnpfcpgfcfaaGreatDoor
open Go.RowKit

def reqV (r : ReqP) (host : ByteArray) (FA : Option Addr) (fn fc : Nat) : Value := .agg #[.string (bs r.method), .string (bs r.path), .string (bs r.query), .string host, .slice FA fn fc, .string (bs r.body)]
theorem LightF.fok {f : FoundP} {r : ReqP} (h : LightF f r) : FndOk f := ⟨by have := h.segs; omega, by have := h.names; omega, by have := h.vals; omega, by have := h.text; omega, by have := h.rest; omega⟩
theorem check_fnd {f : FoundP} (h : checkF f = 0) (ho : f.ok = true) : 1 ≤ f.kind ∧ f.kind ≤ 4 ∧ f.names.length = f.vals.length := by
  unfold checkF at h
  rw [ho, if_neg (by simp)] at h
  split at h
  · cases h
  · rename_i hk
    split at h
    · cases h
    · rename_i hn
      exact ⟨by omega, by omega, Classical.byContradiction fun e => hn (.inl e)⟩
set_option maxRecDepth 100000 in
set_option maxHeartbeats 4000000 in
theorem pBody (f : FoundP) (r : ReqP) (S N V FA : Option Addr) (cs cn cv fn fc : Nat) (host : ByteArray) (w : World) (hl : LightF f r)
    (hN : Reads w w.heap.size 1 N f.names.length (strs f.names)) (hV : Reads w w.heap.size 1 V f.vals.length (strs f.vals)) :
    Calls Tryz.prog 48 #[fndV f S N V cs cn cv, reqV r host FA fn fc] w fun e w' => e = .returned (.tuple #[.string (bs (bodyT f r).1), .int .i64 ((bodyT f r).2 : Nat)]) ∧ Below w.heap.size w w' := by
  have b2 : Below w.heap.size w ((w.alloc (.cells (fndC f S N V cs cn cv) 42)).alloc (.cells #[.string (bs r.method), .string (bs r.path), .string (bs r.query), .string host, .slice FA fn fc, .string (bs r.body)] 33)) := ((Below.refl _ _).alloc (Nat.le_refl _) _).alloc (by simp) _
  have kf := (Blk.new w 42 (fndC f S N V cs cn cv)).alloc (.cells #[.string (bs r.method), .string (bs r.path), .string (bs r.query), .string host, .slice FA fn fc, .string (bs r.body)] 33)
  have kr := Blk.new (w.alloc (.cells (fndC f S N V cs cn cv) 42)) 33 #[.string (bs r.method), .string (bs r.path), .string (bs r.query), .string host, .slice FA fn fc, .string (bs r.body)]
  rw [show (w.alloc (.cells (fndC f S N V cs cn cv) 42)).heap.size = w.heap.size + 1 by simp] at kr
  have cC := pCheckF f S N V cs cn cv ((w.alloc (.cells (fndC f S N V cs cn cv) 42)).alloc (.cells #[.string (bs r.method), .string (bs r.path), .string (bs r.query), .string host, .slice FA fn fc, .string (bs r.body)] 33)) hl.fok
  unfold fndC at b2 kf kr cC
  unfold fndV reqV at *
  have CC := Lib.hid cC
  have B2 := Lib.hid b2
  have KF := Lib.hid kf
  have KR := Lib.hid kr
  have HNV := Lib.hid (And.intro hN hV)
  have HL := Lib.hid hl
  clear cC b2 kf kr hN hV hl
  by_cases hc : checkF f = 0
  · rw [hc] at CC
    cases ho : f.ok with
    | false =>
      have hb : bodyT f r = ([], 10) := by unfold bodyT; rw [if_neg (by simp [hc]), if_pos ho]
      rw [hb]
      rw [ho] at CC KF B2 KR
      clear hb ho hc
      go_enter Tryz.func48, Tryz.ntmps48
      go_wp2_with fail
      (with_reducible refine (CC.out).mono ?_); rintro e w1 ⟨rfl, g1⟩
      have k1 := KF.out.below g1 KF.out.lt
      have c0 : w1.cell? ⟨w.heap.size, 0, none⟩ = some (.bool false) := k1.cell 0
      have G := Lib.hid (B2.out.trans (g1.mono B2.out.size))
      clear k1 g1 CC
      go_wp2_with fail
      go_ret2
      exact ⟨rfl, G.out⟩
    | true =>
      obtain ⟨h1, h2, h3⟩ := check_fnd hc ho
      have hb : bodyT f r = if 4096 < (saysT f r).length then ([], 4) else (saysT f r, 0) := by unfold bodyT; rw [if_neg (by simp [hc]), if_neg (by simp [ho])]
      rw [hb]
      rw [ho] at CC KF B2 KR
      have cB := fun X (hX : Below w.heap.size w X) => pOfBody f r S N V FA cs cn cv fn fc host X HL.out h1 h2 h3 ((HNV.out.1.below hX).more hX.size) ((HNV.out.2.below hX).more hX.size)
      unfold ofV at cB
      rw [ho] at cB
      have CB := Lib.hid cB
      obtain ⟨T, hT⟩ : ∃ T, saysT f r = T := ⟨_, rfl⟩
      rw [hT] at CB ⊢
      have hTz := bs_size T
      clear hb ho hc cB h1 h2 h3 hT
      by_cases ht : 4096 < T.length
      · rw [if_pos ht]
        go_enter Tryz.func48, Tryz.ntmps48
        go_wp2_with fail
        (with_reducible refine (CC.out).mono ?_); rintro e w1 ⟨rfl, g1⟩
        have k1 := KF.out.below g1 KF.out.lt
        have c0 : w1.cell? ⟨w.heap.size, 0, none⟩ = some (.bool true) := k1.cell 0
        have c1 : w1.cell? ⟨w.heap.size, 1, none⟩ = some (.slice S f.segs.length cs) := k1.cell 1
        have c2 : w1.cell? ⟨w.heap.size, 2, none⟩ = some (.int .i64 f.kind) := k1.cell 2
        have c3 : w1.cell? ⟨w.heap.size, 3, none⟩ = some (.string (bs f.text)) := k1.cell 3
        have c4 : w1.cell? ⟨w.heap.size, 4, none⟩ = some (.slice N f.names.length cn) := k1.cell 4
        have c5 : w1.cell? ⟨w.heap.size, 5, none⟩ = some (.slice V f.vals.length cv) := k1.cell 5
        have c6 : w1.cell? ⟨w.heap.size, 6, none⟩ = some (.string (bs f.rest)) := k1.cell 6
        have k2 := KR.out.below g1 KR.out.lt
        have d0 : w1.cell? ⟨w.heap.size + 1, 0, none⟩ = some (.string (bs r.method)) := k2.cell 0
        have d1 : w1.cell? ⟨w.heap.size + 1, 1, none⟩ = some (.string (bs r.path)) := k2.cell 1
        have d2 : w1.cell? ⟨w.heap.size + 1, 2, none⟩ = some (.string (bs r.query)) := k2.cell 2
        have d3 : w1.cell? ⟨w.heap.size + 1, 3, none⟩ = some (.string host) := k2.cell 3
        have d4 : w1.cell? ⟨w.heap.size + 1, 4, none⟩ = some (.slice FA fn fc) := k2.cell 4
        have d5 : w1.cell? ⟨w.heap.size + 1, 5, none⟩ = some (.string (bs r.body)) := k2.cell 5
        have G := Lib.hid (B2.out.trans (g1.mono B2.out.size))
        have CB1 := Lib.hid (CB.out w1 G.out)
        clear k1 k2 g1 CC CB
        go_wp2_with fail
        (with_reducible refine (CB1.out).mono ?_); rintro e w2 ⟨rfl, g2⟩
        go_wp2_with fail
        go_ret2
        exact ⟨rfl, G.out.trans (g2.mono G.out.size)⟩
      · rw [if_neg ht]
        go_enter Tryz.func48, Tryz.ntmps48
        go_wp2_with fail
        (with_reducible refine (CC.out).mono ?_); rintro e w1 ⟨rfl, g1⟩
        have k1 := KF.out.below g1 KF.out.lt
        have c0 : w1.cell? ⟨w.heap.size, 0, none⟩ = some (.bool true) := k1.cell 0
        have c1 : w1.cell? ⟨w.heap.size, 1, none⟩ = some (.slice S f.segs.length cs) := k1.cell 1
        have c2 : w1.cell? ⟨w.heap.size, 2, none⟩ = some (.int .i64 f.kind) := k1.cell 2
        have c3 : w1.cell? ⟨w.heap.size, 3, none⟩ = some (.string (bs f.text)) := k1.cell 3
        have c4 : w1.cell? ⟨w.heap.size, 4, none⟩ = some (.slice N f.names.length cn) := k1.cell 4
        have c5 : w1.cell? ⟨w.heap.size, 5, none⟩ = some (.slice V f.vals.length cv) := k1.cell 5
        have c6 : w1.cell? ⟨w.heap.size, 6, none⟩ = some (.string (bs f.rest)) := k1.cell 6
        have k2 := KR.out.below g1 KR.out.lt
        have d0 : w1.cell? ⟨w.heap.size + 1, 0, none⟩ = some (.string (bs r.method)) := k2.cell 0
        have d1 : w1.cell? ⟨w.heap.size + 1, 1, none⟩ = some (.string (bs r.path)) := k2.cell 1
        have d2 : w1.cell? ⟨w.heap.size + 1, 2, none⟩ = some (.string (bs r.query)) := k2.cell 2
        have d3 : w1.cell? ⟨w.heap.size + 1, 3, none⟩ = some (.string host) := k2.cell 3
        have d4 : w1.cell? ⟨w.heap.size + 1, 4, none⟩ = some (.slice FA fn fc) := k2.cell 4
        have d5 : w1.cell? ⟨w.heap.size + 1, 5, none⟩ = some (.string (bs r.body)) := k2.cell 5
        have G := Lib.hid (B2.out.trans (g1.mono B2.out.size))
        have CB1 := Lib.hid (CB.out w1 G.out)
        clear k1 k2 g1 CC CB
        go_wp2_with fail
        (with_reducible refine (CB1.out).mono ?_); rintro e w2 ⟨rfl, g2⟩
        go_wp2_with fail
        go_ret2
        exact ⟨rfl, G.out.trans (g2.mono G.out.size)⟩
  · have hb : bodyT f r = ([], checkF f) := by unfold bodyT; rw [if_pos hc]
    have hne : ((checkF f : Int) != 0) = true := by rw [bne_iff_ne]; omega
    rw [hb]
    obtain ⟨E0, hE0⟩ : ∃ E0, checkF f = E0 := ⟨_, rfl⟩
    rw [hE0] at CC hne ⊢
    clear hb hc hE0
    go_enter Tryz.func48, Tryz.ntmps48
    go_wp2_with fail
    (with_reducible refine (CC.out).mono ?_); rintro e w1 ⟨rfl, g1⟩
    have G := Lib.hid (B2.out.trans (g1.mono B2.out.size))
    clear g1 CC
    go_wp2_with fail
    go_ret2
    exact ⟨rfl, G.out⟩
end Go.Proofs.YthhlnpfcpgfcfaaGreatDoor
