/-
  FieldChanges, the law.
-/
import Derived.Test.YtepemdmjbfoiaaaDoorFd9
import Derived.Test.YtepemdmjbfoiaaaDoorFd13
namespace Go.Proofs.YtepemdmjbfoiaaaDoor
open Go.RowKit

theorem smallF_all {l : List Fld} (h : ∀ f ∈ l, smallF f) : fldsOk l := fun f hf => by
  obtain ⟨h1, h2⟩ := h f hf
  exact ⟨by omega, by omega⟩
theorem addL_len (l : List Fld) (x : Fld) : (addL l x).length ≤ l.length + 1 := by
  unfold addL; split <;> simp
theorem putR_len (l : List Fld) (x : Fld) : (putR l x).length ≤ l.length + 1 := by
  unfold putR
  split
  · split
    · exact addL_len l x
    · have := putL_len x false l; omega
  · simp
theorem dropR_len (ns : List (List UInt8)) (l : List Fld) : (dropR ns l).length ≤ l.length + 1 := by
  unfold dropR
  split
  · have := dropL_len ns l; omega
  · simp

set_option maxRecDepth 100000 in
set_option maxHeartbeats 16000000 in
theorem FieldChanges_true (A B : Option Addr) (n c m d : Nat) (l : List Fld) (x : Fld) (ns : List (List UInt8)) (w : World) (hn : n ≤ 9223372036854775807) (hr : Reads w w.heap.size 2 A n (fldsC l)) (hx : ∀ f ∈ l, f.1.length ≤ 9223372036854775807 ∧ f.2.length ≤ 9223372036854775807) (hx1 : x.1.length ≤ 9223372036854775807) (hx2 : x.2.length ≤ 9223372036854775807) (hs : Reads w w.heap.size 1 B m (strs ns)) (hm : m ≤ 9223372036854775807) (hns : ∀ y ∈ ns, y.length ≤ 9223372036854775807) :
    Calls Tryd.prog 10 #[.slice A n c, .agg #[.string (bs x.1), .string (bs x.2)], .slice B m d] w fun e w' => e = .returned (.bool true) ∧ Below w.heap.size w w' := by
  obtain rfl := hr.flen
  obtain ⟨W1, hW1⟩ : ∃ W1, w.alloc (.cells #[.string (bs x.1), .string (bs x.2)] 52) = W1 := ⟨_, rfl⟩
  have hB1 : Blk W1 w.heap.size 52 #[.string (bs x.1), .string (bs x.2)] := by rw [← hW1]; exact Blk.new _ _ _
  have hb1 : Below w.heap.size w W1 := by rw [← hW1]; exact (Below.refl _ _).alloc (Nat.le_refl _) _
  have CLG := Lib.hid (large_any A l.length c l W1 ((hr.below hb1).more hb1.size) hn hx)
  have CLX := Lib.hid (large_any (some ⟨W1.heap.size, 0, none⟩) 1 1 [x] _ (reads_newF W1 52 [x] #[.string (bs x.1), .string (bs x.2)] rfl) (by omega) (by intro f hf; simp at hf; subst hf; exact ⟨hx1, hx2⟩))
  have HR := Lib.hid hr
  have HS := Lib.hid hs
  have HNS := Lib.hid hns
  have AW := Lib.hid awake06
  have HW1 := Lib.hid (And.intro hb1 hB1)
  have p0 : W1.cell? ⟨w.heap.size, 0, none⟩ = some (.string (bs x.1)) := hB1.cell 0
  have p1 : W1.cell? ⟨w.heap.size, 1, none⟩ = some (.string (bs x.2)) := hB1.cell 1
  clear hr hx hs hns hx1 hx2 hb1 hB1
  by_cases hm6 : m ≤ 6
  · have d1 : decide ((6 : Int) < (m : Int)) = false := by simp; omega
    go_enter Tryd.func10, Tryd.ntmps10
    go_wp2_with fail
    (with_reducible refine (CLG.out).mono ?_); rintro e w1 ⟨r, rfl, rfl, hsm⟩
    cases r with
    | true =>
      clear hsm
      go_wp2_with fail
      (with_reducible refine (AW.out _).mono ?_); rintro e w1 ⟨rfl, hb1⟩
      go_wp2_with fail
      go_ret
      exact ⟨rfl, HW1.out.1.trans (hb1.mono HW1.out.1.size)⟩
    | false =>
      go_wp2_with fail
      (with_reducible refine (CLX.out).mono ?_); rintro e w1 ⟨r, rfl, rfl, hsx⟩
      cases r with
      | true =>
        clear hsm hsx
        go_wp2_with fail
        (with_reducible refine (AW.out _).mono ?_); rintro e w1 ⟨rfl, hb1⟩
        have h2 := HW1.out.1.alloc HW1.out.1.size (.cells #[.string (bs x.1), .string (bs x.2)] 52)
        go_wp2_with fail
        go_ret
        exact ⟨rfl, h2.trans (hb1.mono h2.size)⟩
      | false =>
        -- main
        obtain ⟨hl40, hsm⟩ := hsm (by first | rfl | trivial)
        obtain ⟨_, hsx⟩ := hsx (by first | rfl | trivial)
        obtain ⟨hx1, hx2⟩ := hsx x (by simp)
        have hok := smallF_all hsm
        have hn2 : l.length ≤ 100000 := by omega
        have h1 := HW1.out.1.alloc HW1.out.1.size (.cells #[.string (bs x.1), .string (bs x.2)] 52)
        have hK1 := HW1.out.2.alloc (.cells #[.string (bs x.1), .string (bs x.2)] 52)
        clear hsm hsx CLX CLG p0 p1
        generalize W1.alloc (.cells #[.string (bs x.1), .string (bs x.2)] 52) = w1 at h1 hK1 ⊢
        have HK1 := Lib.hid hK1
        have COW := Lib.hid (OwnFields_any A l.length c l w1 ((HR.out.below h1).more h1.size) (by omega))
        have c1 := fun B d w hr => pAdd B l.length d l x w hr hn2 hok (by omega) (by omega)
        have c1' := fun w hr => rAdd A l.length c l x w hr hn2 hok (by omega) (by omega)
        have c2 := fun B d w hr => pPut B l.length d l x w hr hn2 hok (by omega) (by omega)
        have c2' := fun w hr => rPut A l.length c l x w hr hn2 hok (by omega) (by omega)
        have c3 := fun B0 d0 w hr hs => pDrop B0 B l.length d0 m d l ns w hr hs hn2 (by omega) hok HNS.out
        have c3' := fun w hr hs => rDrop A B l.length c m d l ns w hr hs hn2 (by omega) hok HNS.out
        unfold FldsPost at c1 c1' c2 c2'
        unfold DropPost at c3 c3'
        have hL := And.intro (addL_len l x) (And.intro (putR_len l x) (And.intro (dropR_len ns l) hl40))
        obtain ⟨V1, hV1⟩ : ∃ y, addL l x = y := ⟨_, rfl⟩
        rw [hV1] at c1 c1' hL
        obtain ⟨V2, hV2⟩ : ∃ y, putR l x = y := ⟨_, rfl⟩
        rw [hV2] at c2 c2' hL
        obtain ⟨V3, hV3⟩ : ∃ y, dropR ns l = y := ⟨_, rfl⟩
        rw [hV3] at c3 c3' hL
        obtain ⟨E1, hE1⟩ : ∃ y, addE l x = y := ⟨_, rfl⟩
        rw [hE1] at c1 c1'
        obtain ⟨E2, hE2⟩ : ∃ y, putE l x = y := ⟨_, rfl⟩
        rw [hE2] at c2 c2'
        obtain ⟨E3, hE3⟩ : ∃ y, askL l ns = y := ⟨_, rfl⟩
        rw [hE3] at c3 c3'
        obtain ⟨N3, hN3⟩ : ∃ y, dropN ns l = y := ⟨_, rfl⟩
        rw [hN3] at c3 c3'
        have C1 := Lib.hid c1
        have C1' := Lib.hid c1'
        have C2 := Lib.hid c2
        have C2' := Lib.hid c2'
        have C3 := Lib.hid c3
        have C3' := Lib.hid c3'
        have HL := Lib.hid hL
        clear c1 c1' c2 c2' c3 c3' hV1 hV2 hV3 hE1 hE2 hE3 hN3 hok hl40 hL hK1 hx1 hx2
        go_wp2_with fail
        (with_reducible refine (COW.out).mono ?_); rintro e w2 ⟨B0, d0, rfl, _, hrB, g⟩
        have h2 := h1.trans (g.mono h1.size)
        have HK2 := Lib.hid (HK1.out.below g HK1.out.lt)
        have HB2 := Lib.hid hrB
        clear hrB
        clear g h1 HK1
        have p0 : w2.cell? ⟨w.heap.size, 0, none⟩ = some (.string (bs x.1)) := HK2.out.cell 0
        have p1 : w2.cell? ⟨w.heap.size, 1, none⟩ = some (.string (bs x.2)) := HK2.out.cell 1
        go_wp2_with fail
        (with_reducible refine (C1.out _ _ _ HB2.out).mono ?_); rintro e w3 ⟨A3, q3, rfl, _, hr3, g⟩
        have h3 := h2.trans (g.mono h2.size)
        have HK3 := Lib.hid (HK2.out.below g HK2.out.lt)
        have HB3 := Lib.hid ((HB2.out.below g).more g.size)
        have HV3 := Lib.hid hr3
        clear hr3
        clear g h2 HK2 HB2 p0 p1
        have p0 : w3.cell? ⟨w.heap.size, 0, none⟩ = some (.string (bs x.1)) := HK3.out.cell 0
        have p1 : w3.cell? ⟨w.heap.size, 1, none⟩ = some (.string (bs x.2)) := HK3.out.cell 1
        go_wp2_with fail
        (with_reducible refine (C1'.out _ ((HR.out.below h3).more h3.size)).mono ?_); rintro e w4 ⟨A4, q4, rfl, _, hr4, g⟩
        have h4 := h3.trans (g.mono h3.size)
        have HK4 := Lib.hid (HK3.out.below g HK3.out.lt)
        have HB4 := Lib.hid ((HB3.out.below g).more g.size)
        have HV4 := Lib.hid hr4
        have HU4 := Lib.hid ((HV3.out.below g).more g.size)
        clear hr4 HV3
        clear g h3 HK3 HB3 p0 p1
        have cF := SameFields_any _ _ V1.length V1.length q3 q4 V1 V1 w4 HU4.out HV4.out (by have := HL.out; omega) (by have := HL.out; omega)
        rw [decide_eq_true rfl] at cF
        have CF := Lib.hid cF
        clear cF HU4 HV4
        go_wp2_with fail
        (with_reducible refine (CF.out).mono ?_); rintro e w5 ⟨rfl, m5, rfl⟩
        have g := below_drewN (Below.refl w4.heap.size w4) m5
        generalize hgw : w4.drewN m5 = w5 at g ⊢
        clear hgw
        have h5 := h4.trans (g.mono h4.size)
        have HK5 := Lib.hid (HK4.out.below g HK4.out.lt)
        have HB5 := Lib.hid ((HB4.out.below g).more g.size)
        clear g h4 HK4 HB4 CF
        have p0 : w5.cell? ⟨w.heap.size, 0, none⟩ = some (.string (bs x.1)) := HK5.out.cell 0
        have p1 : w5.cell? ⟨w.heap.size, 1, none⟩ = some (.string (bs x.2)) := HK5.out.cell 1
        go_wp2_with fail
        (with_reducible refine (C2.out _ _ _ HB5.out).mono ?_); rintro e w6 ⟨A6, q6, rfl, _, hr6, g⟩
        have h6 := h5.trans (g.mono h5.size)
        have HK6 := Lib.hid (HK5.out.below g HK5.out.lt)
        have HB6 := Lib.hid ((HB5.out.below g).more g.size)
        have HV6 := Lib.hid hr6
        clear hr6
        clear g h5 HK5 HB5 p0 p1
        have p0 : w6.cell? ⟨w.heap.size, 0, none⟩ = some (.string (bs x.1)) := HK6.out.cell 0
        have p1 : w6.cell? ⟨w.heap.size, 1, none⟩ = some (.string (bs x.2)) := HK6.out.cell 1
        go_wp2_with fail
        (with_reducible refine (C2'.out _ ((HR.out.below h6).more h6.size)).mono ?_); rintro e w7 ⟨A7, q7, rfl, _, hr7, g⟩
        have h7 := h6.trans (g.mono h6.size)
        have HK7 := Lib.hid (HK6.out.below g HK6.out.lt)
        have HB7 := Lib.hid ((HB6.out.below g).more g.size)
        have HV7 := Lib.hid hr7
        have HU7 := Lib.hid ((HV6.out.below g).more g.size)
        clear hr7 HV6
        clear g h6 HK6 HB6 p0 p1
        have cF := SameFields_any _ _ V2.length V2.length q6 q7 V2 V2 w7 HU7.out HV7.out (by have := HL.out; omega) (by have := HL.out; omega)
        rw [decide_eq_true rfl] at cF
        have CF := Lib.hid cF
        clear cF HU7 HV7
        go_wp2_with fail
        (with_reducible refine (CF.out).mono ?_); rintro e w8 ⟨rfl, m8, rfl⟩
        have g := below_drewN (Below.refl w7.heap.size w7) m8
        generalize hgw : w7.drewN m8 = w8 at g ⊢
        clear hgw
        have h8 := h7.trans (g.mono h7.size)
        have HK8 := Lib.hid (HK7.out.below g HK7.out.lt)
        have HB8 := Lib.hid ((HB7.out.below g).more g.size)
        clear g h7 HK7 HB7 CF
        go_wp2_with fail
        (with_reducible refine (C3.out _ _ _ HB8.out ((HS.out.below h8).more h8.size)).mono ?_); rintro e w9 ⟨A9, q9, rfl, _, hr9, g⟩
        have h9 := h8.trans (g.mono h8.size)
        have HK9 := Lib.hid (HK8.out.below g HK8.out.lt)
        have HB9 := Lib.hid ((HB8.out.below g).more g.size)
        have HV9 := Lib.hid hr9
        clear hr9
        clear g h8 HK8 HB8
        go_wp2_with fail
        (with_reducible refine (C3'.out _ ((HR.out.below h9).more h9.size) ((HS.out.below h9).more h9.size)).mono ?_); rintro e w10 ⟨A10, q10, rfl, _, hr10, g⟩
        have h10 := h9.trans (g.mono h9.size)
        have HK10 := Lib.hid (HK9.out.below g HK9.out.lt)
        have HB10 := Lib.hid ((HB9.out.below g).more g.size)
        have HV10 := Lib.hid hr10
        have HU10 := Lib.hid ((HV9.out.below g).more g.size)
        clear hr10 HV9
        clear g h9 HK9 HB9
        have cF := SameFields_any _ _ V3.length V3.length q9 q10 V3 V3 w10 HU10.out HV10.out (by have := HL.out; omega) (by have := HL.out; omega)
        rw [decide_eq_true rfl] at cF
        have CF := Lib.hid cF
        clear cF HU10 HV10
        go_wp2_with fail
        (with_reducible refine (CF.out).mono ?_); rintro e w11 ⟨rfl, m11, rfl⟩
        have g := below_drewN (Below.refl w10.heap.size w10) m11
        generalize hgw : w10.drewN m11 = w11 at g ⊢
        clear hgw
        have h11 := h10.trans (g.mono h10.size)
        have HK11 := Lib.hid (HK10.out.below g HK10.out.lt)
        have HB11 := Lib.hid ((HB10.out.below g).more g.size)
        clear g h10 HK10 HB10 CF
        have cF := SameFields_any B0 A l.length l.length d0 c l l w11 HB11.out ((HR.out.below h11).more h11.size) (by omega) (by omega)
        rw [decide_eq_true rfl] at cF
        have CF := Lib.hid cF
        clear cF
        go_wp2_with fail
        (with_reducible refine (CF.out).mono ?_); rintro e w12 ⟨rfl, mm, rfl⟩
        have hZ := below_drewN h11 mm
        clear CF
        go_wp2_with fail
        (with_reducible refine (AW.out _).mono ?_); rintro e wZ ⟨rfl, gZ⟩
        go_wp2_with fail
        go_ret
        exact ⟨rfl, hZ.trans (gZ.mono hZ.size)⟩
        -- end of main
  · have d1 : decide ((6 : Int) < (m : Int)) = true := by simp; omega
    go_enter Tryd.func10, Tryd.ntmps10
    go_wp2_with fail
    (with_reducible refine (CLG.out).mono ?_); rintro e w1 ⟨r, rfl, rfl, hsm⟩
    cases r with
    | true =>
      clear hsm
      go_wp2_with fail
      (with_reducible refine (AW.out _).mono ?_); rintro e w1 ⟨rfl, hb1⟩
      go_wp2_with fail
      go_ret
      exact ⟨rfl, HW1.out.1.trans (hb1.mono HW1.out.1.size)⟩
    | false =>
      go_wp2_with fail
      (with_reducible refine (CLX.out).mono ?_); rintro e w1 ⟨r, rfl, rfl, hsx⟩
      cases r with
      | true =>
        clear hsm hsx
        go_wp2_with fail
        (with_reducible refine (AW.out _).mono ?_); rintro e w1 ⟨rfl, hb1⟩
        have h2 := HW1.out.1.alloc HW1.out.1.size (.cells #[.string (bs x.1), .string (bs x.2)] 52)
        go_wp2_with fail
        go_ret
        exact ⟨rfl, h2.trans (hb1.mono h2.size)⟩
      | false =>
        clear hsm hsx
        go_wp2_with fail
        (with_reducible refine (AW.out _).mono ?_); rintro e w1 ⟨rfl, hb1⟩
        have h2 := HW1.out.1.alloc HW1.out.1.size (.cells #[.string (bs x.1), .string (bs x.2)] 52)
        go_wp2_with fail
        go_ret
        exact ⟨rfl, h2.trans (hb1.mono h2.size)⟩
end Go.Proofs.YtepemdmjbfoiaaaDoor
