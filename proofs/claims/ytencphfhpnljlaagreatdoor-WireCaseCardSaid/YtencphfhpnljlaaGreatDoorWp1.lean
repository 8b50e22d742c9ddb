/-
  wire: the fields of the request at hand in new memory; what the four events tell.
-/
import Derived.Test.YtencphfhpnljlaaGreatDoorWm
import Derived.RegionTactic
import Derived.Deep.RegionWith
import Derived.Deep.RegionHeld3
import Derived.Deep.Cut
import Derived.Laws.ResultCell
namespace Go.Proofs.YtencphfhpnljlaaGreatDoor
open Go.RowKit

set_option maxRecDepth 100000 in
theorem pFieldsW (g : Nat) (A : Option Addr) (n c : Nat) (l : List Fld) (w : World) (c4 : w.cell? ⟨g, 4, none⟩ = some (.slice A n c)) (hg : g < w.heap.size) (hr : Reads w w.heap.size 2 A n (fldsC l)) (hn : n ≤ 1000000) :
    Calls Tryz.prog 27 #[.pointer (some ⟨g, 0, none⟩)] w fun e w' => ∃ B d, e = .returned (.slice B n d) ∧ w'.ownsRow w.heap.size 49 2 (.slice B n d) n (fldsC l) ∧ Below w.heap.size w w' := by
  obtain ⟨i0, hi, hz0, hz1, hz2⟩ := info_parts infoFldA
  have hown := World.ownsRow_made (base := w.heap.size) (e := 49) (size := 2) w #[] 0 (Nat.le_refl _) (Nat.zero_le _) rfl
  have hr2 := hr.alloc (Nat.le_refl _) (.cells #[] 49)
  have c4' : (w.alloc (.cells #[] 49)).cell? ⟨g, 4, none⟩ = some (.slice A n c) := (World.cell?_alloc_lt w _ ⟨g, 4, none⟩ hg).trans c4
  have HO := Lib.hid hown
  have HR := Lib.hid hr2
  have HI := Lib.hid (And.intro hi (And.intro hz0 (And.intro hz1 hz2)))
  clear hi hz0 hz1 hz2 hown hr2
  obtain ⟨i1, i2, i3, i4⟩ := HI.out
  have hb1 : (0 + n) ≤ maxLen := by unfold maxLen; omega
  have hb2 : (0 + n) * 32 ≤ 140737488355328 := by omega
  have hrun := run_append_any (P := Tryz.prog) (w.alloc (.cells #[] 49)) w.heap.size 25 25 49 i0 (.agg #[.string .empty, .string .empty]) 2 32 Tryz.underlying25 i1 i2 i3 i4 rfl (by decide) _ 0 [] HO.out w.heap.size A n c (fldsC l) HR.out (fldsC_one l) hb1 hb2 (by simp)
  obtain ⟨v', w', hrun, ho, hgr, hor⟩ := hrun
  rw [List.nil_append, Nat.zero_add] at ho
  obtain ⟨B, d, rfl⟩ := own_slice ho
  have HRUN := Lib.hid hrun
  have HF := Lib.hid (And.intro ho hgr)
  clear hrun ho hgr hor i1 i2 i3 i4 hb1 hb2 hr
  go_enter Tryz.func27, Tryz.ntmps27
  go_wp2_with (at_builtin; refine wpList_append_run HRUN.out rfl _ _ rfl rfl rfl rfl ?_)
  go_ret
  exact ⟨B, d, rfl, HF.out.1, ((Below.refl _ w).alloc (Nat.le_refl _) _).grown HF.out.2 (by simp) (own_ge HO.out)⟩
/-- what an event tells -/
def ToldPost (k : Nat) (meth tgt : ByteArray) (fl : List Fld) (body : ByteArray) (status : Int) (w : World) (e : Ending) (w' : World) : Prop :=
  ∃ B d, e = .returned (.agg #[.int .i64 k, .string meth, .string tgt, .slice B fl.length d, .string body, .int .i64 status]) ∧ w'.ownsRow w.heap.size 49 2 (.slice B fl.length d) fl.length (fldsC fl) ∧ Below w.heap.size w w'
theorem blk_ev {w : World} {g : Nat} (h : Blk w g 41 #[.int .i64 0, .string ⟨#[]⟩, .string ⟨#[]⟩, .slice none 0 0, .string ⟨#[]⟩, .int .i64 0]) (v0 v1 v2 v3 v4 v5 : Value) :
    Blk ((((((w.setCell ⟨g, 0, none⟩ v0).setCell ⟨g, 1, none⟩ v1).setCell ⟨g, 2, none⟩ v2).setCell ⟨g, 3, none⟩ v3).setCell ⟨g, 4, none⟩ v4).setCell ⟨g, 5, none⟩ v5) g 41 #[v0, v1, v2, v3, v4, v5] := by
  have b := (((((h.set_ 0 v0).set_ 1 v1).set_ 2 v2).set_ 3 v3).set_ 4 v4).set_ 5 v5
  have e : ((((((#[.int .i64 0, .string ⟨#[]⟩, .string ⟨#[]⟩, .slice none 0 0, .string ⟨#[]⟩, .int .i64 0] : Array Value).setIfInBounds 0 v0).setIfInBounds 1 v1).setIfInBounds 2 v2).setIfInBounds 3 v3).setIfInBounds 4 v4).setIfInBounds 5 v5 = #[v0, v1, v2, v3, v4, v5] := by simp
  rw [e] at b
  exact b
theorem below_ev {B : Nat} {a w : World} {g : Nat} {v0 v1 v2 v3 v4 v5 : Value} (h : Below B a w) (hg : B ≤ g) :
    Below B a ((((((w.setCell ⟨g, 0, none⟩ v0).setCell ⟨g, 1, none⟩ v1).setCell ⟨g, 2, none⟩ v2).setCell ⟨g, 3, none⟩ v3).setCell ⟨g, 4, none⟩ v4).setCell ⟨g, 5, none⟩ v5) :=
  (((((h.setCell (p := ⟨g, 0, none⟩) hg _).setCell (p := ⟨g, 1, none⟩) hg _).setCell (p := ⟨g, 2, none⟩) hg _).setCell (p := ⟨g, 3, none⟩) hg _).setCell (p := ⟨g, 4, none⟩) hg _).setCell (p := ⟨g, 5, none⟩) hg _
theorem own_ev {base b g : Nat} {w : World} {v : Value} {n : Nat} {xs : List Value} {T : TypeId} {cs : Array Value} {v0 v1 v2 v3 v4 v5 : Value} (h : w.ownsRow base 49 2 v n xs) (hk : Blk w g T cs) (hT : 49 ≠ T) (hb : b = g) :
    ((((((w.setCell ⟨b, 0, none⟩ v0).setCell ⟨b, 1, none⟩ v1).setCell ⟨b, 2, none⟩ v2).setCell ⟨b, 3, none⟩ v3).setCell ⟨b, 4, none⟩ v4).setCell ⟨b, 5, none⟩ v5).ownsRow base 49 2 v n xs := by
  subst hb
  exact own_only h hk hT (Lib.grownBy_setB (Lib.grownBy_setB (Lib.grownBy_setB (Lib.grownBy_setB (Lib.grownBy_setB (Lib.grownBy_setB (World.grownBy.refl w (some b)) 0 v0) 1 v1) 2 v2) 3 v3) 4 v4) 5 v5)

set_option maxRecDepth 100000 in
set_option maxHeartbeats 4000000 in
theorem toldLine (g : Nat) (meth tgt : ByteArray) (w : World) (c2 : w.cell? ⟨g, 2, none⟩ = some (.string meth)) (c3 : w.cell? ⟨g, 3, none⟩ = some (.string tgt)) (hg : g < w.heap.size) :
    Calls Tryz.prog 220 #[.agg #[], .pointer (some ⟨g, 0, none⟩)] w (ToldPost 1 meth tgt [] ⟨#[]⟩ 0 w) := by
  have bX : Below w.heap.size w (w.alloc (.cells #[] 141)) := (Below.refl _ _).alloc (Nat.le_refl _) _
  have n1 : ¬ g = w.heap.size := by omega
  have n2 : ¬ g = w.heap.size + 1 := by omega
  have kE := Blk.new (w.alloc (.cells #[] 141)) 41 #[.int .i64 1, .string meth, .string tgt, .slice none 0 0, .string ⟨#[]⟩, .int .i64 0]
  rw [show (w.alloc (.cells #[] 141)).heap.size = w.heap.size + 1 by simp] at kE
  have KE := Lib.hid kE
  have BX := Lib.hid bX
  clear kE bX
  have d2 : ((w.alloc (.cells #[] 141)).alloc (.cells #[.int .i64 0, .string ⟨#[]⟩, .string ⟨#[]⟩, .slice none 0 0, .string ⟨#[]⟩, .int .i64 0] 41)).cell? ⟨g, 2, none⟩ = some (.string meth) := (World.cell?_alloc_lt _ _ ⟨g, 2, none⟩ (by simp; omega)).trans ((World.cell?_alloc_lt w _ ⟨g, 2, none⟩ hg).trans c2)
  have d3 : ((w.alloc (.cells #[] 141)).alloc (.cells #[.int .i64 0, .string ⟨#[]⟩, .string ⟨#[]⟩, .slice none 0 0, .string ⟨#[]⟩, .int .i64 0] 41)).cell? ⟨g, 3, none⟩ = some (.string tgt) := (World.cell?_alloc_lt _ _ ⟨g, 3, none⟩ (by simp; omega)).trans ((World.cell?_alloc_lt w _ ⟨g, 3, none⟩ hg).trans c3)
  clear hg
  go_enter Tryz.func220, Tryz.ntmps220
  go_wp2_with fail
  refine bodyPost_ret (results_cell_row (p := 4) (ty := 41) (by kernel_rfl) _ _ (w.heap.size + 1) 41 #[.int .i64 1, .string meth, .string tgt, .slice none 0 0, .string ⟨#[]⟩, .int .i64 0] (0, 0) _ rfl KE.out Tryz.underlying41 rfl (by kernel_rfl)) rfl ?_
  exact ⟨none, 0, rfl, World.ownsRow_nil _ _ _ _, BX.out.alloc (by simp) _⟩

set_option maxRecDepth 100000 in
set_option maxHeartbeats 8000000 in
theorem toldHead (g : Nat) (meth tgt : ByteArray) (A : Option Addr) (c : Nat) (l : List Fld) (w : World) (c2 : w.cell? ⟨g, 2, none⟩ = some (.string meth)) (c3 : w.cell? ⟨g, 3, none⟩ = some (.string tgt)) (c4 : w.cell? ⟨g, 4, none⟩ = some (.slice A l.length c)) (hg : g < w.heap.size) (hr : Reads w w.heap.size 2 A l.length (fldsC l)) (hn : l.length ≤ 1000000) :
    Calls Tryz.prog 222 #[.agg #[], .pointer (some ⟨g, 0, none⟩)] w (ToldPost 2 meth tgt l ⟨#[]⟩ 0 w) := by
  have bX : Below w.heap.size w ((w.alloc (.cells #[] 177)).alloc (.cells #[.int .i64 0, .string ⟨#[]⟩, .string ⟨#[]⟩, .slice none 0 0, .string ⟨#[]⟩, .int .i64 0] 41)) := ((Below.refl _ _).alloc (Nat.le_refl _) _).alloc (by simp) _
  have kX := (Blk.new w 177 #[]).alloc (.cells #[.int .i64 0, .string ⟨#[]⟩, .string ⟨#[]⟩, .slice none 0 0, .string ⟨#[]⟩, .int .i64 0] 41)
  have kE := Blk.new (w.alloc (.cells #[] 177)) 41 #[.int .i64 0, .string ⟨#[]⟩, .string ⟨#[]⟩, .slice none 0 0, .string ⟨#[]⟩, .int .i64 0]
  rw [show (w.alloc (.cells #[] 177)).heap.size = w.heap.size + 1 by simp] at kE
  have hS : ((w.alloc (.cells #[] 177)).alloc (.cells #[.int .i64 0, .string ⟨#[]⟩, .string ⟨#[]⟩, .slice none 0 0, .string ⟨#[]⟩, .int .i64 0] 41)).heap.size = w.heap.size + 1 + 1 := by simp
  obtain ⟨W2, hW2⟩ : ∃ W2, ((w.alloc (.cells #[] 177)).alloc (.cells #[.int .i64 0, .string ⟨#[]⟩, .string ⟨#[]⟩, .slice none 0 0, .string ⟨#[]⟩, .int .i64 0] 41)) = W2 := ⟨_, rfl⟩
  rw [hW2] at bX kE kX hS
  have hr2 := (hr.below bX).more bX.size
  have CC := Lib.hid (show ∀ X, Below W2.heap.size W2 X → X.cell? ⟨g, 2, none⟩ = some (.string meth) ∧ X.cell? ⟨g, 3, none⟩ = some (.string tgt) from fun X hX => ⟨((bX.trans (hX.mono bX.size)).cell (p := ⟨g, 2, none⟩) hg).trans c2, ((bX.trans (hX.mono bX.size)).cell (p := ⟨g, 3, none⟩) hg).trans c3⟩)
  have CE := Lib.hid (show ∀ X, Below W2.heap.size W2 X → Blk X (w.heap.size + 1) 41 #[.int .i64 0, .string ⟨#[]⟩, .string ⟨#[]⟩, .slice none 0 0, .string ⟨#[]⟩, .int .i64 0] from fun X hX => kE.below hX kE.lt)
  have CF := Lib.hid (show ∀ X, Below W2.heap.size W2 X → Calls Tryz.prog 27 #[.pointer (some ⟨g, 0, none⟩)] X fun e w' => ∃ B d, e = .returned (.slice B l.length d) ∧ w'.ownsRow W2.heap.size 49 2 (.slice B l.length d) l.length (fldsC l) ∧ Below X.heap.size X w' from fun X hX => (pFieldsW g A l.length c l X (((bX.trans (hX.mono bX.size)).cell (p := ⟨g, 4, none⟩) hg).trans c4) (Nat.lt_of_lt_of_le hg (bX.trans (hX.mono bX.size)).size) ((hr2.below hX).more hX.size) hn).mono fun e w' ⟨B, d, he, ho, hb⟩ => ⟨B, d, he, own_leW ho hX.size, hb⟩)
  have BX := Lib.hid (And.intro bX hS)
  have BD := Lib.hid ((Below.refl W2.heap.size W2).drew)
  have n1 : ¬ g = w.heap.size := by omega
  have n2 : ¬ g = w.heap.size + 1 := by omega
  obtain ⟨d2, d3⟩ := CC.out W2 (Below.refl _ _)
  have s0 : w.heap.size < W2.heap.size := by omega
  clear bX kX kE hr2 hr hS c2 c3 c4 hn
  go_enter Tryz.func222, Tryz.ntmps222
  go_upto_region 1 with (fail)
  clear hW2
  go_region_with (first
    | (go_at_call 27; (with_reducible refine (CF.out _ BD.out).mono ?_); rintro e va ⟨B, d, rfl, ho, ga⟩; have ha := BD.out.trans (ga.mono BD.out.size); obtain ⟨y2, y3⟩ := CC.out va ha; have ke := CE.out va ha; have e0 : va.cell? ⟨w.heap.size + 1, 0, none⟩ = some (.int .i64 0) := ke.cell 0; have e1 : va.cell? ⟨w.heap.size + 1, 1, none⟩ = some (.string ⟨#[]⟩) := ke.cell 1; have e2 : va.cell? ⟨w.heap.size + 1, 2, none⟩ = some (.string ⟨#[]⟩) := ke.cell 2; have e3 : va.cell? ⟨w.heap.size + 1, 3, none⟩ = some (.slice none 0 0) := ke.cell 3; have e4 : va.cell? ⟨w.heap.size + 1, 4, none⟩ = some (.string ⟨#[]⟩) := ke.cell 4; have e5 : va.cell? ⟨w.heap.size + 1, 5, none⟩ = some (.int .i64 0) := ke.cell 5; have f0 := ke.frozen 0; have f1 := ke.frozen 1; have f2 := ke.frozen 2; have f3 := ke.frozen 3; have f4 := ke.frozen 4; have f5 := ke.frozen 5))
  all_goals (
    have kf := blk_ev ke (.int .i64 2) (.string meth) (.string tgt) (.slice B l.length d) (.string ⟨#[]⟩) (.int .i64 0)
    have of := own_ev (v0 := .int .i64 2) (v1 := .string meth) (v2 := .string tgt) (v3 := .slice B l.length d) (v4 := .string ⟨#[]⟩) (v5 := .int .i64 0) ho ke (by decide) rfl
    have bf := below_ev (v0 := .int .i64 2) (v1 := .string meth) (v2 := .string tgt) (v3 := .slice B l.length d) (v4 := .string ⟨#[]⟩) (v5 := .int .i64 0) (BX.out.1.trans (ha.mono BX.out.1.size)) (Nat.le_succ w.heap.size)
    have FIN := Lib.hid (And.intro kf (And.intro (own_leW of BX.out.1.size) bf))
    clear kf of bf ke ho ha ga
    go_wp2_with fail
    refine bodyPost_ret (results_cell_row (p := 4) (ty := 41) (by kernel_rfl) _ _ (w.heap.size + 1) 41 #[.int .i64 2, .string meth, .string tgt, .slice B l.length d, .string ⟨#[]⟩, .int .i64 0] (0, 0) _ rfl FIN.out.1 Tryz.underlying41 rfl (by kernel_rfl)) rfl ?_
    exact ⟨B, d, rfl, FIN.out.2.1, FIN.out.2.2⟩)

set_option maxRecDepth 100000 in
set_option maxHeartbeats 8000000 in
theorem toldReq (g : Nat) (meth tgt : ByteArray) (A : Option Addr) (c : Nat) (l : List Fld) (body : ByteArray) (w : World) (c2 : w.cell? ⟨g, 2, none⟩ = some (.string meth)) (c3 : w.cell? ⟨g, 3, none⟩ = some (.string tgt)) (c4 : w.cell? ⟨g, 4, none⟩ = some (.slice A l.length c)) (hg : g < w.heap.size) (hr : Reads w w.heap.size 2 A l.length (fldsC l)) (hn : l.length ≤ 1000000) :
    Calls Tryz.prog 223 #[.agg #[.string body], .pointer (some ⟨g, 0, none⟩)] w (ToldPost 3 meth tgt l body 0 w) := by
  have bX : Below w.heap.size w ((w.alloc (.cells #[.string body] 182)).alloc (.cells #[.int .i64 0, .string ⟨#[]⟩, .string ⟨#[]⟩, .slice none 0 0, .string ⟨#[]⟩, .int .i64 0] 41)) := ((Below.refl _ _).alloc (Nat.le_refl _) _).alloc (by simp) _
  have kX := (Blk.new w 182 #[.string body]).alloc (.cells #[.int .i64 0, .string ⟨#[]⟩, .string ⟨#[]⟩, .slice none 0 0, .string ⟨#[]⟩, .int .i64 0] 41)
  have kE := Blk.new (w.alloc (.cells #[.string body] 182)) 41 #[.int .i64 0, .string ⟨#[]⟩, .string ⟨#[]⟩, .slice none 0 0, .string ⟨#[]⟩, .int .i64 0]
  rw [show (w.alloc (.cells #[.string body] 182)).heap.size = w.heap.size + 1 by simp] at kE
  have hS : ((w.alloc (.cells #[.string body] 182)).alloc (.cells #[.int .i64 0, .string ⟨#[]⟩, .string ⟨#[]⟩, .slice none 0 0, .string ⟨#[]⟩, .int .i64 0] 41)).heap.size = w.heap.size + 1 + 1 := by simp
  obtain ⟨W2, hW2⟩ : ∃ W2, ((w.alloc (.cells #[.string body] 182)).alloc (.cells #[.int .i64 0, .string ⟨#[]⟩, .string ⟨#[]⟩, .slice none 0 0, .string ⟨#[]⟩, .int .i64 0] 41)) = W2 := ⟨_, rfl⟩
  rw [hW2] at bX kE kX hS
  have hr2 := (hr.below bX).more bX.size
  have CC := Lib.hid (show ∀ X, Below W2.heap.size W2 X → X.cell? ⟨g, 2, none⟩ = some (.string meth) ∧ X.cell? ⟨g, 3, none⟩ = some (.string tgt) ∧ X.cell? ⟨w.heap.size, 0, none⟩ = some (.string body) from fun X hX => ⟨((bX.trans (hX.mono bX.size)).cell (p := ⟨g, 2, none⟩) hg).trans c2, ((bX.trans (hX.mono bX.size)).cell (p := ⟨g, 3, none⟩) hg).trans c3, (kX.below hX kX.lt).cell 0⟩)
  have CE := Lib.hid (show ∀ X, Below W2.heap.size W2 X → Blk X (w.heap.size + 1) 41 #[.int .i64 0, .string ⟨#[]⟩, .string ⟨#[]⟩, .slice none 0 0, .string ⟨#[]⟩, .int .i64 0] from fun X hX => kE.below hX kE.lt)
  have CF := Lib.hid (show ∀ X, Below W2.heap.size W2 X → Calls Tryz.prog 27 #[.pointer (some ⟨g, 0, none⟩)] X fun e w' => ∃ B d, e = .returned (.slice B l.length d) ∧ w'.ownsRow W2.heap.size 49 2 (.slice B l.length d) l.length (fldsC l) ∧ Below X.heap.size X w' from fun X hX => (pFieldsW g A l.length c l X (((bX.trans (hX.mono bX.size)).cell (p := ⟨g, 4, none⟩) hg).trans c4) (Nat.lt_of_lt_of_le hg (bX.trans (hX.mono bX.size)).size) ((hr2.below hX).more hX.size) hn).mono fun e w' ⟨B, d, he, ho, hb⟩ => ⟨B, d, he, own_leW ho hX.size, hb⟩)
  have BX := Lib.hid (And.intro bX hS)
  have BD := Lib.hid ((Below.refl W2.heap.size W2).drew)
  have n1 : ¬ g = w.heap.size := by omega
  have n2 : ¬ g = w.heap.size + 1 := by omega
  have x2 : W2.cell? ⟨w.heap.size, 0, none⟩ = some (.string body) := kX.cell 0
  obtain ⟨d2, d3, _⟩ := CC.out W2 (Below.refl _ _)
  have s0 : w.heap.size < W2.heap.size := by omega
  clear bX kX kE hr2 hr hS c2 c3 c4 hn
  go_enter Tryz.func223, Tryz.ntmps223
  go_upto_region 1 with (fail)
  clear hW2
  go_region_with (first
    | (go_at_call 27; (with_reducible refine (CF.out _ BD.out).mono ?_); rintro e va ⟨B, d, rfl, ho, ga⟩; have ha := BD.out.trans (ga.mono BD.out.size); obtain ⟨y2, y3, y4⟩ := CC.out va ha; have ke := CE.out va ha; have e0 : va.cell? ⟨w.heap.size + 1, 0, none⟩ = some (.int .i64 0) := ke.cell 0; have e1 : va.cell? ⟨w.heap.size + 1, 1, none⟩ = some (.string ⟨#[]⟩) := ke.cell 1; have e2 : va.cell? ⟨w.heap.size + 1, 2, none⟩ = some (.string ⟨#[]⟩) := ke.cell 2; have e3 : va.cell? ⟨w.heap.size + 1, 3, none⟩ = some (.slice none 0 0) := ke.cell 3; have e4 : va.cell? ⟨w.heap.size + 1, 4, none⟩ = some (.string ⟨#[]⟩) := ke.cell 4; have e5 : va.cell? ⟨w.heap.size + 1, 5, none⟩ = some (.int .i64 0) := ke.cell 5; have f0 := ke.frozen 0; have f1 := ke.frozen 1; have f2 := ke.frozen 2; have f3 := ke.frozen 3; have f4 := ke.frozen 4; have f5 := ke.frozen 5))
  all_goals (
    have kf := blk_ev ke (.int .i64 3) (.string meth) (.string tgt) (.slice B l.length d) (.string body) (.int .i64 0)
    have of := own_ev (v0 := .int .i64 3) (v1 := .string meth) (v2 := .string tgt) (v3 := .slice B l.length d) (v4 := .string body) (v5 := .int .i64 0) ho ke (by decide) rfl
    have bf := below_ev (v0 := .int .i64 3) (v1 := .string meth) (v2 := .string tgt) (v3 := .slice B l.length d) (v4 := .string body) (v5 := .int .i64 0) (BX.out.1.trans (ha.mono BX.out.1.size)) (Nat.le_succ w.heap.size)
    have FIN := Lib.hid (And.intro kf (And.intro (own_leW of BX.out.1.size) bf))
    clear kf of bf ke ho ha ga
    go_wp2_with fail
    refine bodyPost_ret (results_cell_row (p := 4) (ty := 41) (by kernel_rfl) _ _ (w.heap.size + 1) 41 #[.int .i64 3, .string meth, .string tgt, .slice B l.length d, .string body, .int .i64 0] (0, 0) _ rfl FIN.out.1 Tryz.underlying41 rfl (by kernel_rfl)) rfl ?_
    exact ⟨B, d, rfl, FIN.out.2.1, FIN.out.2.2⟩)

end Go.Proofs.YtencphfhpnljlaaGreatDoor
