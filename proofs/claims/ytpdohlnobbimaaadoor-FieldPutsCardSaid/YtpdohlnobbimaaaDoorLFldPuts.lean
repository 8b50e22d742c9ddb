/-
  FieldPuts, the law.
-/
import Derived.Test.YtpdohlnobbimaaaDoorFpP
namespace Go.Proofs.YtpdohlnobbimaaaDoor
open Go.RowKit

theorem strs_oneB (a : List UInt8) : (#[Value.string (bs a)] : Array Value).toList = strs [a] := rfl
theorem ints_one (n : Int) : (#[Value.int .i64 n] : Array Value).toList = [n].map (Value.int .i64) := rfl
theorem reads_newI (w : World) (t : TypeId) (xs : List Int) (cs : Array Value) (h : cs.toList = xs.map (Value.int .i64)) : Reads (w.alloc (.cells cs t)) (w.alloc (.cells cs t)).heap.size 1 (some ⟨w.heap.size, 0, none⟩) xs.length (xs.map (Value.int .i64)) := by
  refine ⟨by simp, fun _ => ⟨_, rfl, by simp, fun j u hu => ?_⟩⟩
  rw [Addr.add_lit, Nat.zero_add, (Blk.new w t cs).cell j]
  rw [← h] at hu
  simpa using hu

set_option maxRecDepth 100000 in
set_option maxHeartbeats 32000000 in
theorem FieldPuts_true (A : Option Addr) (n c : Nat) (zs : List Int) (z : Int) (w : World) (hr : Reads w w.heap.size 1 A n (zs.map (Value.int .i64))) (hn : n ≤ 9223372036854775807) (hw : ∀ z ∈ zs, -9223372036854775808 ≤ z ∧ z ≤ 9223372036854775807) (hz1 : -9223372036854775808 ≤ z) (hz2 : z ≤ 9223372036854775807) :
    Calls Tryd.prog 5 #[.slice A n c, .int .i64 z] w fun e w' => e = .returned (.bool true) ∧ Below w.heap.size w w' := by
  have FK := Lib.hid FieldKnown_true
  have C0 := Lib.hid (fun w hr => made06 A n c zs w hr hn hw)
  have C1 := Lib.hid (fun A w hr => made06 A 1 1 [z] w hr (by omega) (by intro y hy; simp at hy; subst hy; exact ⟨hz1, hz2⟩))
  have HR := Lib.hid hr
  clear hr hn hw hz1 hz2
  go_enter Tryd.func5, Tryd.ntmps5
  go_wp2_with fail
  (with_reducible refine (FK.out _).mono ?_); rintro e w1 ⟨rfl, g⟩
  have h1 := g
  have HR := Lib.hid ((HR.out.below g).more g.size)
  clear g
  go_wp2_with fail
  (with_reducible refine (C0.out _ HR.out).mono ?_); rintro e w2 ⟨B0, d0, l, rfl, hl, _, hm, hr, g⟩
  have h2 := h1.trans (g.mono h1.size)
  have HR := Lib.hid ((HR.out.below g).more g.size)
  have hL : okF l := ⟨by omega, hm⟩
  clear hl hm
  have HL := Lib.hid hr
  clear hr
  clear g h1
  clear HR
  go_wp2_with fail
  have g := (Below.refl w2.heap.size w2).alloc (Nat.le_refl _) (.cells #[.int .i64 z] 3)
  have HS := Lib.hid (reads_newI w2 3 [z] #[.int .i64 z] (ints_one z))
  have h3 := h2.trans (g.mono h2.size)
  have HL := Lib.hid ((HL.out.below g).more g.size)
  generalize hgw : w2.alloc (.cells #[.int .i64 z] 3) = w3 at *
  clear hgw g h2
  go_wp2_with fail
  (with_reducible refine (C1.out _ _ HS.out).mono ?_); rintro e w4 ⟨B1, d1, l1, rfl, hl1, hd1, hm1, hr, g⟩
  have h4 := h3.trans (g.mono h3.size)
  have HL := Lib.hid ((HL.out.below g).more g.size)
  have H1 := Lib.hid hr
  clear hr
  clear g h3
  clear HS
  obtain ⟨x, rfl⟩ : ∃ x, l1 = [x] := List.length_eq_one_iff.1 (by rw [hl1]; rfl)
  have hx : madeF x := hm1 x (by simp)
  obtain ⟨b1, o1, rfl, hbl1, q0, q1⟩ := H1.out.fld 0 (by simp)
  have q0' : w4.cell? ⟨b1, o1, none⟩ = some (.string (bs x.1)) := q0
  have q1' : w4.cell? ⟨b1, o1 + 1, none⟩ = some (.string (bs x.2)) := by simpa using q1
  obtain ⟨hP1, hE1⟩ := put_made hL hx
  obtain ⟨f1, f2, f3⟩ := putF_facts x l
  have hAm := putF_mem hx hL.2
  have hAl := putF_len x l
  have hdl := drop_len_one x.1 (putF x l)
  rw [f1, f3] at hdl
  have hxl := madeF_len x hx
  have hxt := madeF_tok x hx
  have cP1 := fun w hr => pPut B0 l.length d0 l x w hr (by have := hL.1; omega) (okF_flds hL) (by omega) (by omega)
  rw [hP1, hE1] at cP1
  obtain ⟨AA, hAA⟩ : ∃ y, putF x l = y := ⟨_, rfl⟩
  rw [hAA] at f1 f2 f3 hAm hAl hdl cP1
  have hAo : AA.length ≤ 21 ∧ ∀ f ∈ AA, madeF f := ⟨by have := hL.1; omega, hAm⟩
  have hL12 : l.length ≤ 20 := hL.1
  have kA : checkL AA = (0, 0) := by unfold checkL; rw [if_neg (by have := hAo.1; omega)]; exact firstE_none AA (fun f hf => madeF_one f (hAm f hf))
  have fA : fldsOk AA := fun f hf => by have := madeF_len f (hAm f hf); omega
  have aA : askL AA [x.1] = 0 := by unfold askL; rw [kA, if_neg (by simp), if_pos (by simp [hxt])]
  have aL : askL l [x.1] = 0 := okF_ask hL [x.1] (by simp [hxt])
  have hP2 : putR AA x = AA ∧ putE AA x = 0 := by
    have hm0 : moreE AA x = 0 := by unfold moreE; rw [kA]; simp [madeF_one x hx]
    have hn : ¬ namedL x.1 0 AA = [] := fun e => by have := (named_nil x.1 AA).1 e; rw [List.any_eq_false] at this; have hxm : x ∈ AA.filter (sameN x.1) := (by rw [f1]; simp); exact this x (List.mem_filter.1 hxm).1 (sameN_self x)
    unfold putR putE
    rw [if_pos hm0, if_pos hm0, if_neg hn, if_neg hn]
    have e2 : AA.any (sameN x.1) = true := by rw [List.any_eq_true]; have hxm : x ∈ AA.filter (sameN x.1) := (by rw [f1]; simp); exact ⟨x, (List.mem_filter.1 hxm).1, sameN_self x⟩
    unfold putF at f2
    rw [if_pos e2] at f2
    exact ⟨f2, rfl⟩
  have vA : allL x.1 AA = [x.2] := by rw [allL_ok aA]; unfold valuesL; rw [f1]; rfl
  have dA : dropR [x.1] AA = dropL [x.1] l := by unfold dropR; rw [if_pos aA, f3]
  have dL : dropR [x.1] l = dropL [x.1] l := by unfold dropR; rw [if_pos aL]
  have hDl : (dropL [x.1] l).length ≤ 20 := Nat.le_trans (dropL_len _ _) hL12
  have cP2 := fun B d w hr => pPut B AA.length d AA x w hr (by have := hAo.1; omega) fA (by omega) (by omega)
  rw [hP2.1, hP2.2] at cP2
  have cA3 := fun B d w hr => pAll B AA.length d AA (bs x.1) w hr (by have := hAo.1; omega) fA (by rw [bs_size]; omega)
  unfold AllPost at cA3
  rw [bs_list, vA, aA] at cA3
  have cD4 := fun B T d w hr hs => pDrop B T AA.length d 1 1 AA [x.1] w hr hs (by have := hAo.1; omega) (by omega) fA (by intro y hy; simp at hy; subst hy; omega)
  have cD5 := fun T w hr hs => pDrop B0 T l.length d0 1 1 l [x.1] w hr hs (by omega) (by omega) (okF_flds hL) (by intro y hy; simp at hy; subst hy; omega)
  unfold DropPost at cD4 cD5
  rw [dA, aA] at cD4
  rw [dL, aL] at cD5
  unfold FldsPost at cP1 cP2
  obtain ⟨DD, hDD⟩ : ∃ y, dropL [x.1] l = y := ⟨_, rfl⟩
  rw [hDD] at cD4 cD5 hDl hdl
  obtain ⟨N4, hN4⟩ : ∃ y, dropN [x.1] AA = y := ⟨_, rfl⟩
  obtain ⟨N5, hN5⟩ : ∃ y, dropN [x.1] l = y := ⟨_, rfl⟩
  rw [hN4] at cD4
  rw [hN5] at cD5
  have CP1 := Lib.hid cP1
  have CP2 := Lib.hid cP2
  have CA3 := Lib.hid cA3
  have CD4 := Lib.hid cD4
  have CD5 := Lib.hid cD5
  have hAl2 : AA.length ≤ 21 := hAo.1
  have t1 : ((DD.length : Int) == (AA.length : Int) - 1) = true := by rw [beq_iff_eq]; simp at hdl; omega
  have t2 : (1 : Int) ≤ (AA.length : Int) := by simp at hdl; omega
  have HLen := Lib.hid (And.intro hAl2 hDl)
  clear cP1 cP2 cA3 cD4 cD5 hP1 hE1 hAA f1 f2 f3 hAm hAl hdl hxl hxt hAo hL12 kA fA aA aL hP2 vA dA dL hDD hN4 hN5 q0 q1 hL hx hm1 hl1 hd1 hDl hbl1
  go_wp2_with fail
  have g := (Below.refl w4.heap.size w4).alloc (Nat.le_refl _) (.cells #[.string (bs x.1), .string (bs x.2)] 36)
  have h5 := h4.trans (g.mono h4.size)
  have HX := Lib.hid (Blk.new w4 36 #[.string (bs x.1), .string (bs x.2)])
  have HL := Lib.hid ((HL.out.below g).more g.size)
  have H1 := Lib.hid ((H1.out.below g).more g.size)
  generalize hgw : w4.alloc (.cells #[.string (bs x.1), .string (bs x.2)] 36) = w5 at *
  clear hgw g h4
  clear q0' q1'
  have p0 : w5.cell? ⟨w4.heap.size, 0, none⟩ = some (.string (bs x.1)) := HX.out.cell 0
  have p1 : w5.cell? ⟨w4.heap.size, 1, none⟩ = some (.string (bs x.2)) := HX.out.cell 1
  go_wp2_with fail
  (with_reducible refine (CP1.out _ HL.out).mono ?_); rintro e w6 ⟨A6, q6, rfl, _, hr, g⟩
  have h6 := h5.trans (g.mono h5.size)
  have HL := Lib.hid ((HL.out.below g).more g.size)
  have H1 := Lib.hid ((H1.out.below g).more g.size)
  have HX := Lib.hid (HX.out.below g HX.out.lt)
  have HA := Lib.hid hr
  clear hr
  clear g h5
  clear p0 p1
  have p0 : w6.cell? ⟨w4.heap.size, 0, none⟩ = some (.string (bs x.1)) := HX.out.cell 0
  have p1 : w6.cell? ⟨w4.heap.size, 1, none⟩ = some (.string (bs x.2)) := HX.out.cell 1
  go_wp2_with fail
  (with_reducible refine (CP2.out _ _ _ HA.out).mono ?_); rintro e w7 ⟨A7, q7, rfl, _, hr, g⟩
  have h7 := h6.trans (g.mono h6.size)
  have HL := Lib.hid ((HL.out.below g).more g.size)
  have H1 := Lib.hid ((H1.out.below g).more g.size)
  have HX := Lib.hid (HX.out.below g HX.out.lt)
  have HA := Lib.hid ((HA.out.below g).more g.size)
  have HB := Lib.hid hr
  clear hr
  clear g h6
  clear p0 p1
  have p0 : w7.cell? ⟨w4.heap.size, 0, none⟩ = some (.string (bs x.1)) := HX.out.cell 0
  have p1 : w7.cell? ⟨w4.heap.size, 1, none⟩ = some (.string (bs x.2)) := HX.out.cell 1
  go_wp2_with fail
  (with_reducible refine (CA3.out _ _ _ HA.out).mono ?_); rintro e w8 ⟨A8, q8, rfl, _, hr, g⟩
  have h8 := h7.trans (g.mono h7.size)
  have HL := Lib.hid ((HL.out.below g).more g.size)
  have H1 := Lib.hid ((H1.out.below g).more g.size)
  have HX := Lib.hid (HX.out.below g HX.out.lt)
  have HA := Lib.hid ((HA.out.below g).more g.size)
  have HB := Lib.hid ((HB.out.below g).more g.size)
  have HV := Lib.hid hr
  clear hr
  clear g h7
  clear p0 p1
  have p0 : w8.cell? ⟨w4.heap.size, 0, none⟩ = some (.string (bs x.1)) := HX.out.cell 0
  have p1 : w8.cell? ⟨w4.heap.size, 1, none⟩ = some (.string (bs x.2)) := HX.out.cell 1
  go_wp2_with fail
  clear p0 p1
  have g := (Below.refl w8.heap.size w8).alloc (Nat.le_refl _) (.cells #[.string (bs x.1)] 9)
  have HS := Lib.hid (reads_new w8 9 [x.1] #[.string (bs x.1)] (strs_oneB _))
  have h9 := h8.trans (g.mono h8.size)
  have HL := Lib.hid ((HL.out.below g).more g.size)
  have H1 := Lib.hid ((H1.out.below g).more g.size)
  have HX := Lib.hid (HX.out.below g HX.out.lt)
  have HA := Lib.hid ((HA.out.below g).more g.size)
  have HB := Lib.hid ((HB.out.below g).more g.size)
  have HV := Lib.hid ((HV.out.below g).more g.size)
  generalize hgw : w8.alloc (.cells #[.string (bs x.1)] 9) = w9 at *
  clear hgw g h8
  go_wp2_with fail
  (with_reducible refine (CD4.out _ _ _ _ HA.out HS.out).mono ?_); rintro e w10 ⟨A9, q9, rfl, _, hr, g⟩
  have h10 := h9.trans (g.mono h9.size)
  have HL := Lib.hid ((HL.out.below g).more g.size)
  have H1 := Lib.hid ((H1.out.below g).more g.size)
  have HX := Lib.hid (HX.out.below g HX.out.lt)
  have HA := Lib.hid ((HA.out.below g).more g.size)
  have HB := Lib.hid ((HB.out.below g).more g.size)
  have HV := Lib.hid ((HV.out.below g).more g.size)
  have HC := Lib.hid hr
  clear hr
  clear g h9
  clear HS
  have p0 : w10.cell? ⟨w4.heap.size, 0, none⟩ = some (.string (bs x.1)) := HX.out.cell 0
  have p1 : w10.cell? ⟨w4.heap.size, 1, none⟩ = some (.string (bs x.2)) := HX.out.cell 1
  go_wp2_with fail
  clear p0 p1
  have g := (Below.refl w10.heap.size w10).alloc (Nat.le_refl _) (.cells #[.string (bs x.1)] 9)
  have HS := Lib.hid (reads_new w10 9 [x.1] #[.string (bs x.1)] (strs_oneB _))
  have h11 := h10.trans (g.mono h10.size)
  have HL := Lib.hid ((HL.out.below g).more g.size)
  have H1 := Lib.hid ((H1.out.below g).more g.size)
  have HX := Lib.hid (HX.out.below g HX.out.lt)
  have HA := Lib.hid ((HA.out.below g).more g.size)
  have HB := Lib.hid ((HB.out.below g).more g.size)
  have HV := Lib.hid ((HV.out.below g).more g.size)
  have HC := Lib.hid ((HC.out.below g).more g.size)
  generalize hgw : w10.alloc (.cells #[.string (bs x.1)] 9) = w11 at *
  clear hgw g h10
  go_wp2_with fail
  (with_reducible refine (CD5.out _ _ HL.out HS.out).mono ?_); rintro e w12 ⟨A10, q10, rfl, _, hr, g⟩
  have h12 := h11.trans (g.mono h11.size)
  have HL := Lib.hid ((HL.out.below g).more g.size)
  have H1 := Lib.hid ((H1.out.below g).more g.size)
  have HX := Lib.hid (HX.out.below g HX.out.lt)
  have HA := Lib.hid ((HA.out.below g).more g.size)
  have HB := Lib.hid ((HB.out.below g).more g.size)
  have HV := Lib.hid ((HV.out.below g).more g.size)
  have HC := Lib.hid ((HC.out.below g).more g.size)
  have HD := Lib.hid hr
  clear hr
  clear g h11
  clear HS
  have cS := SameFields_any A6 A7 AA.length AA.length q6 q7 AA AA w12 HA.out HB.out (by have := HLen.out; omega) (by have := HLen.out; omega)
  rw [decide_eq_true rfl] at cS
  have CS := Lib.hid cS
  clear cS
  clear HA
  clear HB
  go_wp2_with fail
  (with_reducible refine (CS.out).mono ?_); rintro e w13 ⟨rfl, m13, rfl⟩
  have g := below_drewN (Below.refl w12.heap.size w12) m13
  have h13 := h12.trans (g.mono h12.size)
  have HL := Lib.hid ((HL.out.below g).more g.size)
  have H1 := Lib.hid ((H1.out.below g).more g.size)
  have HX := Lib.hid (HX.out.below g HX.out.lt)
  have HV := Lib.hid ((HV.out.below g).more g.size)
  have HC := Lib.hid ((HC.out.below g).more g.size)
  have HD := Lib.hid ((HD.out.below g).more g.size)
  generalize hgw : w12.drewN m13 = w13 at *
  clear hgw
  clear g h12
  clear CS
  have p0 : w13.cell? ⟨w4.heap.size, 0, none⟩ = some (.string (bs x.1)) := HX.out.cell 0
  have p1 : w13.cell? ⟨w4.heap.size, 1, none⟩ = some (.string (bs x.2)) := HX.out.cell 1
  go_wp2_with fail
  clear p0 p1
  have g := (Below.refl w13.heap.size w13).alloc (Nat.le_refl _) (.cells #[.string (bs x.2)] 9)
  have HS := Lib.hid (reads_new w13 9 [x.2] #[.string (bs x.2)] (strs_oneB _))
  have h14 := h13.trans (g.mono h13.size)
  have HL := Lib.hid ((HL.out.below g).more g.size)
  have H1 := Lib.hid ((H1.out.below g).more g.size)
  have HX := Lib.hid (HX.out.below g HX.out.lt)
  have HV := Lib.hid ((HV.out.below g).more g.size)
  have HC := Lib.hid ((HC.out.below g).more g.size)
  have HD := Lib.hid ((HD.out.below g).more g.size)
  generalize hgw : w13.alloc (.cells #[.string (bs x.2)] 9) = w14 at *
  clear hgw g h13
  have cS := SameTexts_any A8 (some ⟨w13.heap.size, 0, none⟩) 1 1 q8 1 [x.2] [x.2] w14 HV.out HS.out (by omega) (by omega)
  rw [beq_self_eq_true] at cS
  have CS := Lib.hid cS
  clear cS HS
  clear HV
  (with_reducible refine (CS.out).mono ?_); rintro e w15 ⟨rfl, m15, rfl⟩
  have g := below_drewN (Below.refl w14.heap.size w14) m15
  have h15 := h14.trans (g.mono h14.size)
  have HL := Lib.hid ((HL.out.below g).more g.size)
  have H1 := Lib.hid ((H1.out.below g).more g.size)
  have HX := Lib.hid (HX.out.below g HX.out.lt)
  have HC := Lib.hid ((HC.out.below g).more g.size)
  have HD := Lib.hid ((HD.out.below g).more g.size)
  generalize hgw : w14.drewN m15 = w15 at *
  clear hgw
  clear g h14
  clear CS
  have cS := SameFields_any A9 A10 DD.length DD.length q9 q10 DD DD w15 HC.out HD.out (by have := HLen.out; omega) (by have := HLen.out; omega)
  rw [decide_eq_true rfl] at cS
  have CS := Lib.hid cS
  clear cS
  clear HC
  clear HD
  go_wp2_with fail
  (with_reducible refine (CS.out).mono ?_); rintro e w16 ⟨rfl, m16, rfl⟩
  have g := below_drewN (Below.refl w15.heap.size w15) m16
  have h16 := h15.trans (g.mono h15.size)
  have HL := Lib.hid ((HL.out.below g).more g.size)
  have H1 := Lib.hid ((H1.out.below g).more g.size)
  have HX := Lib.hid (HX.out.below g HX.out.lt)
  generalize hgw : w15.drewN m16 = w16 at *
  clear hgw
  clear g h15
  clear CS
  have t3 : IntKind.i64.wrap ((AA.length : Int) - 1) = (AA.length : Int) - 1 := by rw [IntKind.wrap_i64]; have := HLen.out; omega
  go_wp2_with fail
  go_ret
  exact ⟨rfl, h16⟩
end Go.Proofs.YtpdohlnobbimaaaDoor
