/-
  FieldDrops, the law.
-/
import Derived.Test.YtpdohlnobbimaaaDoorFpD
namespace Go.Proofs.YtpdohlnobbimaaaDoor
open Go.RowKit

/-- what a piece of code leaves where it goes on -/
def onNormalK (R : Act → World → Prop) : Exit → Act → World → Prop
  | .normal, a, w => R a w
  | _, _, _ => False
theorem wp_normalK {P : Program} {c : Code} {Q : Exit → Act → World → Prop} {a : Act} {w : World} {R : Act → World → Prop} (h : c.wp P (onNormalK R) a w) (k : ∀ a' w', R a' w' → Q .normal a' w') : c.wp P Q a w :=
  Code.wp_mono (fun e a' w' h => by cases e <;> first | exact k _ _ h | exact h.elim) h
theorem strs_oneB (a : List UInt8) : (#[Value.string (bs a)] : Array Value).toList = strs [a] := rfl
theorem reads_blkI {X : World} {G : Nat} {z : Int} (h : Blk X G 3 #[.int .i64 z]) : Reads X X.heap.size 1 (some ⟨G, 0, none⟩) 1 ([z].map (Value.int .i64)) := by
  refine ⟨by simp, fun _ => ⟨_, rfl, h.lt, fun j u hu => ?_⟩⟩
  rw [Addr.add_lit, Nat.zero_add, h.cell j]
  simpa using hu
/-- what a list made of one number leaves -/
def MadeOne (base X : World) (e : Ending) (w' : World) : Prop := ∃ b o d x, e = .returned (.slice (some ⟨b, o, none⟩) 1 d) ∧ Hid (x ∈ nmT) ∧ w'.cell? ⟨b, o, none⟩ = some (.string (bs x)) ∧ Hid (b < w'.heap.size ∧ w'.cell? ⟨b, o, none⟩ = some (.string (bs x))) ∧ Hid (Below base.heap.size base w') ∧ Hid (Below X.heap.size X w')
theorem made_one (z : Int) (hz : -9223372036854775808 ≤ z ∧ z ≤ 9223372036854775807) (base X : World) (G : Nat) (hX : Hid (Below base.heap.size base X)) (hG : Hid (Blk X G 3 #[.int .i64 z])) :
    Calls Tryd.prog 13 #[.slice (some ⟨G, 0, none⟩) 1 1] X (MadeOne base X) := by
  refine (made06 (some ⟨G, 0, none⟩) 1 1 [z] X (reads_blkI hG.out) (by omega) (by intro y hy; simp at hy; subst hy; exact hz)).mono ?_
  rintro e w' ⟨B, d, l1, rfl, hl1, hd, hm, hr, g⟩
  obtain ⟨x, rfl⟩ : ∃ x, l1 = [x] := List.length_eq_one_iff.1 (by rw [hl1]; rfl)
  obtain ⟨b, o, rfl, hb, q0, _⟩ := hr.fld 0 (by simp)
  exact ⟨b, o, d, x.1, rfl, (hm x (by simp)).1, q0, ⟨hb, q0⟩, hX.out.trans (g.mono hX.out.size), g⟩
theorem dB {base X : World} (o : Obj) (h : Hid (Below base.heap.size base X)) : Hid (Below base.heap.size base (X.alloc o)) := hide (h.out.alloc h.out.size o)
theorem dD {base X : World} (h : Hid (Below base.heap.size base X)) : Hid (Below base.heap.size base X.drew) := hide h.out.drew
theorem kN (X : World) (G : Nat) (z : Int) (e : G = X.heap.size) : Hid (Blk (X.alloc (.cells #[.int .i64 z] 3)) G 3 #[.int .i64 z]) := by subst e; exact Blk.new X _ _
theorem kN2 (X : World) (o : Obj) (z : Int) : Hid (Blk ((X.alloc o).alloc (.cells #[.int .i64 z] 3)) (X.heap.size + 1) 3 #[.int .i64 z]) := kN _ _ z (by simp)
theorem kA {X : World} {G : Nat} {z : Int} (o : Obj) (h : Hid (Blk X G 3 #[.int .i64 z])) : Hid (Blk (X.alloc o) G 3 #[.int .i64 z]) := hide (h.out.alloc o)
theorem kD {X : World} {G : Nat} {z : Int} (h : Hid (Blk X G 3 #[.int .i64 z])) : Hid (Blk X.drew G 3 #[.int .i64 z]) := h
theorem kC {X w' : World} {G : Nat} (z : Int) (g : Hid (Below X.heap.size X w')) (h : Hid (Blk X G 3 #[.int .i64 z])) : Hid (Blk w' G 3 #[.int .i64 z]) := hide (h.out.below g.out h.out.lt)
theorem nA {X : World} {b o : Nat} {x : List UInt8} (ob : Obj) (h : Hid (b < X.heap.size ∧ X.cell? ⟨b, o, none⟩ = some (.string (bs x)))) : Hid (b < (X.alloc ob).heap.size ∧ (X.alloc ob).cell? ⟨b, o, none⟩ = some (.string (bs x))) :=
  hide ⟨by rw [World.size_alloc]; have := h.out.1; omega, (World.cell?_alloc_lt X ob _ h.out.1).trans h.out.2⟩
theorem qA {X : World} {b o : Nat} {x : List UInt8} (h : Hid (b < X.heap.size ∧ X.cell? ⟨b, o, none⟩ = some (.string (bs x)))) (ob : Obj) : (X.alloc ob).cell? ⟨b, o, none⟩ = some (.string (bs x)) :=
  (World.cell?_alloc_lt X ob _ h.out.1).trans h.out.2
theorem nC {X w' : World} {b o : Nat} {x : List UInt8} (g : Hid (Below X.heap.size X w')) (h : Hid (b < X.heap.size ∧ X.cell? ⟨b, o, none⟩ = some (.string (bs x)))) : w'.cell? ⟨b, o, none⟩ = some (.string (bs x)) ∧ Hid (b < w'.heap.size ∧ w'.cell? ⟨b, o, none⟩ = some (.string (bs x))) :=
  have q := (g.out.cell (p := ⟨b, o, none⟩) h.out.1).trans h.out.2
  ⟨q, hide ⟨Nat.lt_of_lt_of_le h.out.1 g.out.size, q⟩⟩

set_option maxRecDepth 100000 in
set_option maxHeartbeats 32000000 in
theorem FieldDrops_true (A : Option Addr) (n c : Nat) (zs : List Int) (z1 z2 : Int) (w : World) (hr : Reads w w.heap.size 1 A n (zs.map (Value.int .i64))) (hn : n ≤ 9223372036854775807) (hw : ∀ z ∈ zs, -9223372036854775808 ≤ z ∧ z ≤ 9223372036854775807) (hz1 : -9223372036854775808 ≤ z1 ∧ z1 ≤ 9223372036854775807) (hz2 : -9223372036854775808 ≤ z2 ∧ z2 ≤ 9223372036854775807) :
    Calls Tryd.prog 4 #[.slice A n c, .int .i64 z1, .int .i64 z2] w fun e w' => e = .returned (.bool true) ∧ Below w.heap.size w w' := by
  have FK := Lib.hid FieldKnown_true
  have C0 := Lib.hid (fun w hr => made06 A n c zs w hr hn hw)
  have HR := Lib.hid hr
  have M1 := Lib.hid (made_one z1 hz1)
  have M2 := Lib.hid (made_one z2 hz2)
  clear hr hn hw hz1 hz2
  go_enter Tryd.func4, Tryd.ntmps4
  go_wp2_with fail
  (with_reducible refine (FK.out _).mono ?_); rintro e w1 ⟨rfl, g⟩
  have h1 := g
  have HR := Lib.hid ((HR.out.below g).more g.size)
  clear g
  go_wp2_with fail
  (with_reducible refine (C0.out _ HR.out).mono ?_); rintro e w2 ⟨B0, d0, l, rfl, hl, _, hm, hr, g⟩
  have h2 := h1.trans (g.mono h1.size)
  have HR := Lib.hid ((HR.out.below g).more g.size)
  have hL : okF l := ⟨by omega, hm⟩
  clear hl hm
  have HL := Lib.hid hr
  clear hr
  clear g h1
  clear HR
  have HB0 : Hid (Below w2.heap.size w2 w2) := Below.refl _ _
  go_wp2_with fail
  refine wp_normalK (R := fun a' w' => ∃ (v33 v34 v35 v36 v39 v40 v41 v42 : Value) (x y : List UInt8), a' = ({ tmps := #[.slice A n c, .int .i64 z1, .int .i64 z2, undef, undef, undef, .bool false, .bool true, .slice B0 l.length d0, .string (bs x), .string (bs y), undef, undef, undef, undef, undef, undef, undef, undef, undef, undef, undef, undef, undef, undef, undef, undef, undef, undef, .bool true, .slice A n c, .slice B0 l.length d0, .int .i64 z1, v33, v34, v35, v36, .string (bs x), .int .i64 z2, v39, v40, v41, v42, .string (bs y), undef, undef, undef, undef, undef, undef, undef, undef, undef, undef, undef, undef, undef, undef, undef, undef, undef, undef, undef, undef, undef, undef, undef, undef, undef, undef, undef, undef, undef, undef, undef, undef, undef, undef, undef, undef, undef, undef, undef, undef, undef, undef, undef, undef, undef, undef, undef, undef, undef, undef, undef, undef, undef, undef, undef, undef, undef, undef, undef, undef, undef, undef, undef, undef, undef, undef, undef, undef, undef, undef, undef, undef, undef, undef, undef, undef, undef, undef, undef, undef, undef, undef, undef, undef, undef, undef, undef, undef, undef, undef, undef, undef, undef, undef, undef, undef, undef, undef, undef, undef, undef, undef, undef, undef, undef, undef, undef, undef, undef, undef, undef, undef, undef, undef, undef, undef, undef, undef, undef, undef, undef, undef, undef, undef, undef, undef, undef, undef, undef], defers := [] } : Act) ∧ Hid (x ∈ nmT) ∧ Hid (y ∈ nmT) ∧ Hid (Below w2.heap.size w2 w')) ?region3 ?post3
  case region3 =>
    go_region_with
      (first
    | (go_at_call 13; refine Calls.mono (M1.out w2 _ _ ?_ ?_) ?_; (focus ((repeat (with_reducible (first | assumption | apply dB | apply dD))); done)); (focus ((repeat (with_reducible (first | assumption | (refine kN _ _ _ ?_; first | rfl | (simp; done)) | apply kA | apply kD))); done)); rintro r vz1 ⟨bz1, oz1, dz1, xz1, rfl, hxz1, qz1, nz1, hwz1, hvz1⟩; have qaz1 := qA nz1; (first | (have kz2 := kC z2 hvz1 (by assumption)) | (have kz2 := kC z2 hvz1 (kA _ (by assumption))) | (have kz2 := kC z2 hvz1 (kN _ (w2.heap.size + 1) z2 (by simp))) | (have kz2 := kC z2 hvz1 (kA _ (kD (kN _ w2.heap.size z2 rfl)))) | skip); (first | ((first | (have ez2 := nC hvz1 (by assumption)) | (have ez2 := nC hvz1 (nA _ (by assumption)))); have fz2 := ez2.1; have gz2 := ez2.2; have gaz2 := qA gz2; clear ez2) | skip))
    | (go_at_call 13; refine Calls.mono (M2.out w2 _ _ ?_ ?_) ?_; (focus ((repeat (with_reducible (first | assumption | apply dB | apply dD))); done)); (focus ((repeat (with_reducible (first | assumption | (refine kN _ _ _ ?_; first | rfl | (simp; done)) | apply kA | apply kD))); done)); rintro r vz2 ⟨bz2, oz2, dz2, xz2, rfl, hxz2, qz2, nz2, hwz2, hvz2⟩; have qaz2 := qA nz2; (first | (have kz1 := kC z1 hvz2 (by assumption)) | (have kz1 := kC z1 hvz2 (kA _ (by assumption))) | (have kz1 := kC z1 hvz2 (kN _ (w2.heap.size + 1) z1 (by simp))) | (have kz1 := kC z1 hvz2 (kA _ (kD (kN _ w2.heap.size z1 rfl)))) | skip); (first | ((first | (have ez1 := nC hvz2 (by assumption)) | (have ez1 := nC hvz2 (nA _ (by assumption)))); have fz1 := ez1.1; have gz1 := ez1.2; have gaz1 := qA gz1; clear ez1) | skip)))
    all_goals exact ⟨_, _, _, _, _, _, _, _, xz1, xz2, rfl, by assumption, by assumption, by assumption⟩
  case post3 =>
  rintro a' w3 ⟨v33, v34, v35, v36, v39, v40, v41, v42, x, y, rfl, hx, hy, hg⟩
  have g := hg.out
  have h3 := h2.trans (g.mono h2.size)
  have HL := Lib.hid ((HL.out.below g).more g.size)
  clear hg HB0 M1 M2
  clear g h2
  have ktok : ∀ a ∈ nmT, isTok a = true ∧ a.length ≤ 100 := by decide +kernel
  obtain ⟨tx, lx⟩ := ktok x hx.out
  obtain ⟨ty, ly⟩ := ktok y hy.out
  have hBB := okF_drop hL [x]
  have a1 : askL l [x, y] = 0 := okF_ask hL _ (by simp [tx, ty])
  have a2 : askL l [x] = 0 := okF_ask hL _ (by simp [tx])
  have a3 : askL (dropL [x] l) [y] = 0 := okF_ask hBB _ (by simp [ty])
  have a4 : askL (dropL [x, y] l) [x] = 0 := okF_ask (okF_drop hL _) _ (by simp [tx])
  have hAA := okF_drop hL [x, y]
  have cD1 := fun T w hr hs => pDrop B0 T l.length d0 2 2 l [x, y] w hr hs (by have := hL.1; omega) (by omega) (okF_flds hL) (by intro z hz; simp at hz; rcases hz with rfl | rfl <;> omega)
  have cD2 := fun T w hr hs => pDrop B0 T l.length d0 1 1 l [x] w hr hs (by have := hL.1; omega) (by omega) (okF_flds hL) (by intro z hz; simp at hz; subst hz; omega)
  have cD3 := fun B d T w hr hs => pDrop B T (dropL [x] l).length d 1 1 (dropL [x] l) [y] w hr hs (by have := hBB.1; omega) (by omega) (okF_flds hBB) (by intro z hz; simp at hz; subst hz; omega)
  have cV := fun B d w hr => pAll B (dropL [x, y] l).length d (dropL [x, y] l) (bs x) w hr (by have := hAA.1; omega) (okF_flds hAA) (by rw [bs_size]; omega)
  have cW := fun w hr => pAll B0 l.length d0 l (bs x) w hr (by have := hL.1; omega) (okF_flds hL) (by rw [bs_size]; omega)
  have cC := fun w hr => pCombine B0 l.length d0 l (bs x) w hr (by have := hL.1; omega) (okF_flds hL) (by rw [bs_size]; omega)
  unfold DropPost at cD1 cD2 cD3
  unfold AllPost at cV cW
  have r1 : dropR [x, y] l = dropL [x, y] l := by unfold dropR; rw [if_pos a1]
  have r2 : dropR [x] l = dropL [x] l := by unfold dropR; rw [if_pos a2]
  have r3 : dropR [y] (dropL [x] l) = dropL [x, y] l := by unfold dropR; rw [if_pos a3, dropL_two]
  have n1 : dropN [x, y] l = l.length - (dropL [x, y] l).length := by unfold dropN; rw [if_pos a1]
  have n2 : dropN [x] l = l.length - (dropL [x] l).length := by unfold dropN; rw [if_pos a2]
  have n3 : dropN [y] (dropL [x] l) = (dropL [x] l).length - (dropL [x, y] l).length := by unfold dropN; rw [if_pos a3, dropL_two]
  have v1 : allL x (dropL [x, y] l) = [] := by rw [allL_ok a4]; unfold valuesL; rw [drop_none]; rfl
  have v2 : allL x l = valuesL x l := allL_ok a2
  have v3 : comT (valuesL x l) = (joinL (valuesL x l), decide (0 < (valuesL x l).length)) := comT_eq _
  have s1 := drop_two_len x y l
  rw [← dropL_two] at s1
  have s2 := drop_values x l
  have s3 := dropL_len [x, y] l
  have s4 := hL.1
  have j1 := joinL_all x l
  have j2 := (allL_each x l).2
  rw [v2] at j1 j2
  rw [r1, a1] at cD1
  rw [r2, a2] at cD2
  rw [r3, a3] at cD3
  rw [bs_list, v1, a4] at cV
  rw [bs_list, v2, a2] at cW
  rw [bs_list, v2, v3, a2] at cC
  obtain ⟨M, hM⟩ : ∃ M, dropN [x, y] l = M := ⟨_, rfl⟩
  obtain ⟨O, hO⟩ : ∃ O, dropN [x] l = O := ⟨_, rfl⟩
  obtain ⟨T, hT⟩ : ∃ T, dropN [y] (dropL [x] l) = T := ⟨_, rfl⟩
  rw [hM] at cD1 n1
  rw [hO] at cD2 n2
  rw [hT] at cD3 n3
  obtain ⟨AA, hAe⟩ : ∃ z, dropL [x, y] l = z := ⟨_, rfl⟩
  obtain ⟨BB, hBe⟩ : ∃ z, dropL [x] l = z := ⟨_, rfl⟩
  obtain ⟨V, hVe⟩ : ∃ z, valuesL x l = z := ⟨_, rfl⟩
  rw [hAe] at cD1 cD3 cV n1 n3 s1 s3
  rw [hBe] at cD2 cD3 n2 n3 s1 s2
  rw [hVe] at cW cC s2 j1 j2
  simp only at cC
  have m1 : (M : Int) = (O : Int) + (T : Int) := by omega
  have m2 : (O : Int) = (V.length : Int) := by omega
  have m3 : (M : Int) = (l.length : Int) - (AA.length : Int) := by omega
  have HS0 := Lib.hid (And.intro m1 (And.intro m2 (And.intro m3 (And.intro j1 (And.intro j2 (And.intro s4 s3))))))
  have hVl : V.length ≤ 20 := by omega
  have CD1 := Lib.hid cD1
  have CD2 := Lib.hid cD2
  have CD3 := Lib.hid cD3
  have CV := Lib.hid cV
  have CW := Lib.hid cW
  have CC := Lib.hid cC
  clear cD1 cD2 cD3 cV cW cC ktok tx lx ty ly hBB a1 a2 a3 a4 hAA r1 r2 r3 n1 n2 n3 v1 v2 v3 s1 s2 s3 s4 j1 j2 hM hO hT hAe hBe hVe m1 m2 m3 hx hy hL C0 FK
  go_wp2_with fail
  have g := (Below.refl w3.heap.size w3).alloc (Nat.le_refl _) (.cells #[.string (bs x), .string (bs y)] 9)
  have HS := Lib.hid (reads_new w3 9 [x, y] #[.string (bs x), .string (bs y)] rfl)
  have h4 := h3.trans (g.mono h3.size)
  have HL := Lib.hid ((HL.out.below g).more g.size)
  generalize hgw : w3.alloc (.cells #[.string (bs x), .string (bs y)] 9) = w4 at *
  clear hgw g h3
  go_wp2_with fail
  (with_reducible refine (CD1.out _ _ HL.out HS.out).mono ?_); rintro e w5 ⟨A1, q1, rfl, _, hr, g⟩
  have h5 := h4.trans (g.mono h4.size)
  have HL := Lib.hid ((HL.out.below g).more g.size)
  have HA := Lib.hid hr
  clear hr
  clear g h4
  clear HS CD1
  go_wp2_with fail
  have g := (Below.refl w5.heap.size w5).alloc (Nat.le_refl _) (.cells #[.string (bs x)] 9)
  have HS := Lib.hid (reads_new w5 9 [x] #[.string (bs x)] rfl)
  have h6 := h5.trans (g.mono h5.size)
  have HL := Lib.hid ((HL.out.below g).more g.size)
  have HA := Lib.hid ((HA.out.below g).more g.size)
  generalize hgw : w5.alloc (.cells #[.string (bs x)] 9) = w6 at *
  clear hgw g h5
  go_wp2_with fail
  (with_reducible refine (CD2.out _ _ HL.out HS.out).mono ?_); rintro e w7 ⟨A2, q2, rfl, _, hr, g⟩
  have h7 := h6.trans (g.mono h6.size)
  have HL := Lib.hid ((HL.out.below g).more g.size)
  have HA := Lib.hid ((HA.out.below g).more g.size)
  have HB := Lib.hid hr
  clear hr
  clear g h6
  clear HS CD2
  go_wp2_with fail
  have g := (Below.refl w7.heap.size w7).alloc (Nat.le_refl _) (.cells #[.string (bs y)] 9)
  have HS := Lib.hid (reads_new w7 9 [y] #[.string (bs y)] rfl)
  have h8 := h7.trans (g.mono h7.size)
  have HL := Lib.hid ((HL.out.below g).more g.size)
  have HA := Lib.hid ((HA.out.below g).more g.size)
  have HB := Lib.hid ((HB.out.below g).more g.size)
  generalize hgw : w7.alloc (.cells #[.string (bs y)] 9) = w8 at *
  clear hgw g h7
  go_wp2_with fail
  (with_reducible refine (CD3.out _ _ _ _ HB.out HS.out).mono ?_); rintro e w9 ⟨A3, q3, rfl, _, hr, g⟩
  have h9 := h8.trans (g.mono h8.size)
  have HL := Lib.hid ((HL.out.below g).more g.size)
  have HA := Lib.hid ((HA.out.below g).more g.size)
  have HB := Lib.hid ((HB.out.below g).more g.size)
  have HC := Lib.hid hr
  clear hr
  clear g h8
  clear HS CD3
  clear HB
  go_wp2_with fail
  (with_reducible refine (CV.out _ _ _ HA.out).mono ?_); rintro e w10 ⟨A4, q4, rfl, _, hr, g⟩
  have h10 := h9.trans (g.mono h9.size)
  have HL := Lib.hid ((HL.out.below g).more g.size)
  have HA := Lib.hid ((HA.out.below g).more g.size)
  have HC := Lib.hid ((HC.out.below g).more g.size)
  clear g h9
  clear hr CV
  go_wp2_with fail
  (with_reducible refine (CW.out _ HL.out).mono ?_); rintro e w11 ⟨A5, q5, rfl, _, hr, g⟩
  have h11 := h10.trans (g.mono h10.size)
  have HL := Lib.hid ((HL.out.below g).more g.size)
  have HA := Lib.hid ((HA.out.below g).more g.size)
  have HC := Lib.hid ((HC.out.below g).more g.size)
  have HV := Lib.hid hr
  clear hr
  clear g h10
  clear CW
  go_wp2_with fail
  (with_reducible refine (CC.out _ HL.out).mono ?_); rintro e w12 ⟨rfl, g⟩
  have h12 := h11.trans (g.mono h11.size)
  have HL := Lib.hid ((HL.out.below g).more g.size)
  have HA := Lib.hid ((HA.out.below g).more g.size)
  have HC := Lib.hid ((HC.out.below g).more g.size)
  have HV := Lib.hid ((HV.out.below g).more g.size)
  clear g h11
  clear CC
  clear HL
  go_wp2_with fail
  go_loop [27, 28] (fun o i => ∃ k : Nat, i = .int .i64 k ∧ k ≤ V.length ∧ ∃ u : ByteArray, o = .string u ∧ Hid (u = bs (joinL (V.take k)))) (fun _ i => V.length - (intOf i).toNat)
  case atStart => exact ⟨0, rfl, by omega, _, rfl, hide rfl⟩
  case round =>
    obtain ⟨k, rfl, hk, u, rfl, HU⟩ := hrel
    by_cases hlt : k < V.length
    · obtain ⟨b, o, rfl, hbl, hc0⟩ := HV.out.text k hlt
      obtain ⟨xk, hxk⟩ : ∃ z, V[k] = z := ⟨_, rfl⟩
      have hxl := HS0.out.2.2.2.2.1 V[k] (List.getElem_mem hlt)
      have hjn := joinL_succ V k hlt
      rw [hxk] at hc0 hxl hjn
      have hbx : (bs xk).size ≤ 1000000 := by rw [bs_size]; omega
      have hul : u.size ≤ 1000000 := by rw [HU.out, bs_size]; have := joinL_take_le V k; have := HS0.out.2.2.2.1; omega
      by_cases hk0 : k = 0
      · rw [if_pos hk0] at hjn
        have HU' : Hid (u ++ bs xk = bs (joinL (V.take (k + 1)))) := by
          show _ = _
          rw [hjn, HU.out]
          exact ba_ext (by rw [append_toList, bs_list, bs_list, hk0, List.take_zero, joinL_nil]; rfl)
        have hz : decide ((0 : Int) < (k : Int)) = false := by simp; omega
        have hz2 : decide (0 < k) = false := by simp; omega
        clear hjn hk0 hxk
        go_wp2_with fail
        exact ⟨⟨k + 1, by go_num, by omega, _, rfl, HU'⟩, by simp [intOf]; omega⟩
      · rw [if_neg hk0] at hjn
        have HU' : Hid ((u ++ ⟨#[44, 32]⟩) ++ bs xk = bs (joinL (V.take (k + 1)))) := by
          show _ = _
          rw [hjn, HU.out]
          exact ba_ext (by rw [append_toList, append_toList, bs_list, bs_list, bs_list]; rfl)
        have hpos : decide ((0 : Int) < (k : Int)) = true := by simp; omega
        have hpos2 : decide (0 < k) = true := by simp; omega
        clear hjn hxk
        go_wp2_with fail
        exact ⟨⟨k + 1, by go_num, by omega, _, rfl, HU'⟩, by simp [intOf]; omega⟩
    · obtain rfl : k = V.length := by omega
      have hu : u = bs (joinL V) := by have := HU.out; rwa [List.take_length] at this
      subst hu
      have hd : decide ((V.length : Int) < (V.length : Int)) = false := by simp
      have cS := SameFields_any A1 A3 AA.length AA.length q1 q3 AA AA w12 HA.out HC.out (by have := HS0.out.2.2.2.2.2; omega) (by have := HS0.out.2.2.2.2.2; omega)
      rw [decide_eq_true rfl] at cS
      have CS := Lib.hid cS
      clear cS HA HC HV
      go_wp2_with fail
      (with_reducible refine (CS.out).mono ?_); rintro e w13 ⟨rfl, m13, rfl⟩
      have hbF := below_drewN h12 m13
      obtain ⟨m1, m2, m3, _, _, m4, m5⟩ := HS0.out
      have t1 : IntKind.i64.wrap ((O : Int) + (T : Int)) = (M : Int) := by rw [IntKind.wrap_i64]; omega
      have t2 : IntKind.i64.wrap ((l.length : Int) - (AA.length : Int)) = (M : Int) := by rw [IntKind.wrap_i64]; omega
      have t3 : ((M : Int) == (M : Int)) = true := by simp
      have t4 : ((O : Int) == (V.length : Int)) = true := by rw [beq_iff_eq]; omega
      have t5 : ((M : Int) == (O : Int) + (T : Int)) = true := by rw [beq_iff_eq]; omega
      have t6 : ((M : Int) == (l.length : Int) - (AA.length : Int)) = true := by rw [beq_iff_eq]; omega
      have t7 := eq_texts (rfl : joinL V = joinL V)
      clear m1 m2 m3 m4 m5 HU CS
      go_wp2_with fail
      go_ret
      exact ⟨by simp_all, hbF⟩
end Go.Proofs.YtpdohlnobbimaaaDoor
