/-
  wire: what an error tells.
-/
import Derived.Test.YtencphfhpnljlaaGreatDoorWp1
namespace Go.Proofs.YtencphfhpnljlaaGreatDoor
open Go.RowKit

set_option maxRecDepth 100000 in
set_option maxHeartbeats 8000000 in
theorem toldWrong (g : Nat) (meth tgt : ByteArray) (A : Option Addr) (c : Nat) (l : List Fld) (s : Int) (ov : Bool) (w : World) (c2 : w.cell? ⟨g, 2, none⟩ = some (.string meth)) (c3 : w.cell? ⟨g, 3, none⟩ = some (.string tgt)) (c4 : w.cell? ⟨g, 4, none⟩ = some (.slice A l.length c)) (c15 : w.cell? ⟨g, 15, none⟩ = some (.bool ov)) (hg : g < w.heap.size) (hr : Reads w w.heap.size 2 A l.length (fldsC l)) (hn : l.length ≤ 1000000) :
    Calls Tryz.prog 221 #[.agg #[.int .i64 s], .pointer (some ⟨g, 0, none⟩)] w (ToldPost 4 meth tgt (if ov = true then l else []) ⟨#[]⟩ s w) := by
  have bX : Below w.heap.size w ((w.alloc (.cells #[.int .i64 s] 172)).alloc (.cells #[.int .i64 0, .string ⟨#[]⟩, .string ⟨#[]⟩, .slice none 0 0, .string ⟨#[]⟩, .int .i64 0] 41)) := ((Below.refl _ _).alloc (Nat.le_refl _) _).alloc (by simp) _
  have kX := (Blk.new w 172 #[.int .i64 s]).alloc (.cells #[.int .i64 0, .string ⟨#[]⟩, .string ⟨#[]⟩, .slice none 0 0, .string ⟨#[]⟩, .int .i64 0] 41)
  have kE := Blk.new (w.alloc (.cells #[.int .i64 s] 172)) 41 #[.int .i64 0, .string ⟨#[]⟩, .string ⟨#[]⟩, .slice none 0 0, .string ⟨#[]⟩, .int .i64 0]
  rw [show (w.alloc (.cells #[.int .i64 s] 172)).heap.size = w.heap.size + 1 by simp] at kE
  have hS : ((w.alloc (.cells #[.int .i64 s] 172)).alloc (.cells #[.int .i64 0, .string ⟨#[]⟩, .string ⟨#[]⟩, .slice none 0 0, .string ⟨#[]⟩, .int .i64 0] 41)).heap.size = w.heap.size + 1 + 1 := by simp
  obtain ⟨W2, hW2⟩ : ∃ W2, ((w.alloc (.cells #[.int .i64 s] 172)).alloc (.cells #[.int .i64 0, .string ⟨#[]⟩, .string ⟨#[]⟩, .slice none 0 0, .string ⟨#[]⟩, .int .i64 0] 41)) = W2 := ⟨_, rfl⟩
  rw [hW2] at bX kX kE hS
  have hr2 := (hr.below bX).more bX.size
  have d2 : W2.cell? ⟨g, 2, none⟩ = some (.string meth) := (bX.cell (p := ⟨g, 2, none⟩) hg).trans c2
  have d3 : W2.cell? ⟨g, 3, none⟩ = some (.string tgt) := (bX.cell (p := ⟨g, 3, none⟩) hg).trans c3
  have d0 : W2.cell? ⟨w.heap.size, 0, none⟩ = some (.int .i64 s) := kX.cell 0
  have e2 : (W2.alloc (.cells #[.int .i64 0, .string ⟨#[]⟩, .string ⟨#[]⟩, .slice none 0 0, .string ⟨#[]⟩, .int .i64 0] 41)).cell? ⟨g, 2, none⟩ = some (.string meth) := (World.cell?_alloc_lt W2 _ ⟨g, 2, none⟩ (by show g < _; omega)).trans d2
  have e3 : (W2.alloc (.cells #[.int .i64 0, .string ⟨#[]⟩, .string ⟨#[]⟩, .slice none 0 0, .string ⟨#[]⟩, .int .i64 0] 41)).cell? ⟨g, 3, none⟩ = some (.string tgt) := (World.cell?_alloc_lt W2 _ ⟨g, 3, none⟩ (by show g < _; omega)).trans d3
  have e0 : (W2.alloc (.cells #[.int .i64 0, .string ⟨#[]⟩, .string ⟨#[]⟩, .slice none 0 0, .string ⟨#[]⟩, .int .i64 0] 41)).cell? ⟨w.heap.size, 0, none⟩ = some (.int .i64 s) := (World.cell?_alloc_lt W2 _ ⟨w.heap.size, 0, none⟩ (by show w.heap.size < _; omega)).trans d0
  have bV : Below W2.heap.size W2 (W2.alloc (.cells #[.int .i64 4, .string meth, .string tgt, .slice none 0 0, .string ⟨#[]⟩, .int .i64 s] 41)).drew := ((Below.refl _ _).alloc (Nat.le_refl _) _).drew
  have kV := (Blk.new W2 41 #[.int .i64 4, .string meth, .string tgt, .slice none 0 0, .string ⟨#[]⟩, .int .i64 s]).drew
  have n1 : ¬ g = W2.heap.size := by omega
  have n2 : ¬ w.heap.size = W2.heap.size := by omega
  have K := Lib.hid (And.intro bX (And.intro kE (And.intro hS (And.intro hr2 (And.intro bV kV)))))
  have C4 := Lib.hid c4
  have C15 := Lib.hid c15
  have HG := Lib.hid hg
  clear bX kX kE hS hr2 bV kV c2 c3 c4 c15 hg hr
  go_enter Tryz.func221, Tryz.ntmps221
  go_upto_region 1 with (fail)
  clear hW2
  go_region
  generalize (W2.alloc (.cells #[.int .i64 4, .string meth, .string tgt, .slice none 0 0, .string ⟨#[]⟩, .int .i64 s] 41)).drew = V at K ⊢
  obtain ⟨bX, kE, hS, hr2, bV, kV⟩ := K.out
  have bE := bX.trans (bV.mono bX.size)
  have v15 : V.cell? ⟨g, 15, none⟩ = some (.bool ov) := (bE.cell (p := ⟨g, 15, none⟩) HG.out).trans C15.out
  have v4 : V.cell? ⟨g, 4, none⟩ = some (.slice A l.length c) := (bE.cell (p := ⟨g, 4, none⟩) HG.out).trans C4.out
  have kE2 := kE.below bV kE.lt
  cases ov with
  | false =>
    have q0 : V.cell? ⟨W2.heap.size, 0, none⟩ = some (.int .i64 4) := kV.cell 0
    have q1 : V.cell? ⟨W2.heap.size, 1, none⟩ = some (.string meth) := kV.cell 1
    have q2 : V.cell? ⟨W2.heap.size, 2, none⟩ = some (.string tgt) := kV.cell 2
    have q3 : V.cell? ⟨W2.heap.size, 3, none⟩ = some (.slice none 0 0) := kV.cell 3
    have q4 : V.cell? ⟨W2.heap.size, 4, none⟩ = some (.string ⟨#[]⟩) := kV.cell 4
    have q5 : V.cell? ⟨W2.heap.size, 5, none⟩ = some (.int .i64 s) := kV.cell 5
    have r0 : V.cell? ⟨w.heap.size + 1, 0, none⟩ = some (.int .i64 0) := kE2.cell 0
    have s0 := kE2.frozen 0
    have r1 : V.cell? ⟨w.heap.size + 1, 1, none⟩ = some (.string ⟨#[]⟩) := kE2.cell 1
    have s1 := kE2.frozen 1
    have r2 : V.cell? ⟨w.heap.size + 1, 2, none⟩ = some (.string ⟨#[]⟩) := kE2.cell 2
    have s2 := kE2.frozen 2
    have r3 : V.cell? ⟨w.heap.size + 1, 3, none⟩ = some (.slice none 0 0) := kE2.cell 3
    have s3 := kE2.frozen 3
    have r4 : V.cell? ⟨w.heap.size + 1, 4, none⟩ = some (.string ⟨#[]⟩) := kE2.cell 4
    have s4 := kE2.frozen 4
    have r5 : V.cell? ⟨w.heap.size + 1, 5, none⟩ = some (.int .i64 0) := kE2.cell 5
    have s5 := kE2.frozen 5
    have kf := blk_ev kE2 (.int .i64 4) (.string meth) (.string tgt) (.slice none 0 0) (.string ⟨#[]⟩) (.int .i64 s)
    have bf := below_ev (v0 := .int .i64 4) (v1 := .string meth) (v2 := .string tgt) (v3 := .slice none 0 0) (v4 := .string ⟨#[]⟩) (v5 := .int .i64 s) bE (Nat.le_succ w.heap.size)
    have FIN := Lib.hid (And.intro kf bf)
    clear kf bf bX kE hS hr2 bV kV bE kE2
    go_wp2_with fail
    refine bodyPost_ret (results_cell_row (p := 4) (ty := 41) (by kernel_rfl) _ _ (w.heap.size + 1) 41 #[.int .i64 4, .string meth, .string tgt, .slice none 0 0, .string ⟨#[]⟩, .int .i64 s] (0, 0) _ rfl FIN.out.1 Tryz.underlying41 rfl (by kernel_rfl)) rfl ?_
    exact ⟨none, 0, rfl, World.ownsRow_nil _ _ _ _, FIN.out.2⟩
  | true =>
    have cF := pFieldsW g A l.length c l V v4 (Nat.lt_of_lt_of_le HG.out bE.size) ((hr2.below bV).more bV.size) hn
    have CF := Lib.hid cF
    have KK := Lib.hid (And.intro bE (And.intro kE2 (And.intro kV (And.intro bV.size hS))))
    clear cF bE kE2 kV bV hr2 bX kE hS v4
    go_wp2_with fail
    (with_reducible refine (CF.out).mono ?_); rintro e va ⟨B, d, rfl, ho, ga⟩
    obtain ⟨bE, kE2, kV, hVs, hS⟩ := KK.out
    have ke := kV.below ga kV.lt
    have kE2 := kE2.below ga kE2.lt
    have q0 : va.cell? ⟨W2.heap.size, 0, none⟩ = some (.int .i64 4) := ke.cell 0
    have q1 : va.cell? ⟨W2.heap.size, 1, none⟩ = some (.string meth) := ke.cell 1
    have q2 : va.cell? ⟨W2.heap.size, 2, none⟩ = some (.string tgt) := ke.cell 2
    have q3 : va.cell? ⟨W2.heap.size, 3, none⟩ = some (.slice none 0 0) := ke.cell 3
    have q4 : va.cell? ⟨W2.heap.size, 4, none⟩ = some (.string ⟨#[]⟩) := ke.cell 4
    have q5 : va.cell? ⟨W2.heap.size, 5, none⟩ = some (.int .i64 s) := ke.cell 5
    have qf := ke.frozen 3
    have r0 : va.cell? ⟨w.heap.size + 1, 0, none⟩ = some (.int .i64 0) := kE2.cell 0
    have s0 := kE2.frozen 0
    have r1 : va.cell? ⟨w.heap.size + 1, 1, none⟩ = some (.string ⟨#[]⟩) := kE2.cell 1
    have s1 := kE2.frozen 1
    have r2 : va.cell? ⟨w.heap.size + 1, 2, none⟩ = some (.string ⟨#[]⟩) := kE2.cell 2
    have s2 := kE2.frozen 2
    have r3 : va.cell? ⟨w.heap.size + 1, 3, none⟩ = some (.slice none 0 0) := kE2.cell 3
    have s3 := kE2.frozen 3
    have r4 : va.cell? ⟨w.heap.size + 1, 4, none⟩ = some (.string ⟨#[]⟩) := kE2.cell 4
    have s4 := kE2.frozen 4
    have r5 : va.cell? ⟨w.heap.size + 1, 5, none⟩ = some (.int .i64 0) := kE2.cell 5
    have s5 := kE2.frozen 5
    have hne : w.heap.size + 1 ≠ W2.heap.size := by omega
    have hbE := (bE.trans (ga.mono bE.size)).setCell (p := ⟨W2.heap.size, 3, none⟩) (by show w.heap.size ≤ W2.heap.size; omega) (.slice B l.length d)
    have kE3 := kE2.far (p := ⟨W2.heap.size, 3, none⟩) hne (.slice B l.length d)
    have oV := own_only (own_leW ho (Nat.le_trans bE.size (Nat.le_refl _))) ke (by decide) (Lib.grownBy_setB (World.grownBy.refl va (some W2.heap.size)) 3 (.slice B l.length d))
    have kf := blk_ev kE3 (.int .i64 4) (.string meth) (.string tgt) (.slice B l.length d) (.string ⟨#[]⟩) (.int .i64 s)
    have of := own_ev (v0 := .int .i64 4) (v1 := .string meth) (v2 := .string tgt) (v3 := .slice B l.length d) (v4 := .string ⟨#[]⟩) (v5 := .int .i64 s) oV kE3 (by decide) rfl
    have bf := below_ev (v0 := .int .i64 4) (v1 := .string meth) (v2 := .string tgt) (v3 := .slice B l.length d) (v4 := .string ⟨#[]⟩) (v5 := .int .i64 s) hbE (Nat.le_succ w.heap.size)
    have n3 : ¬ W2.heap.size = w.heap.size + 1 := by omega
    have n4 : ¬ w.heap.size + 1 = W2.heap.size := by omega
    have FIN := Lib.hid (And.intro kf (And.intro of bf))
    clear kf of bf oV hbE kE3 hne bE kE2 kV hVs hS ke ho ga
    go_wp2_with fail
    refine bodyPost_ret (results_cell_row (p := 4) (ty := 41) (by kernel_rfl) _ _ (w.heap.size + 1) 41 #[.int .i64 4, .string meth, .string tgt, .slice B l.length d, .string ⟨#[]⟩, .int .i64 s] (0, 0) _ rfl FIN.out.1 Tryz.underlying41 rfl (by kernel_rfl)) rfl ?_
    exact ⟨B, d, rfl, FIN.out.2.1, FIN.out.2.2⟩

end Go.Proofs.YtencphfhpnljlaaGreatDoor
