/-
  FramingBack, the law.
-/
import Derived.Test.YtpdohlnobbimaaaDoorFrA
import Derived.Test.YtpdohlnobbimaaaDoorLFrKnown
import Derived.Test.YtpdohlnobbimaaaDoorFrBM
namespace Go.Proofs.YtpdohlnobbimaaaDoor
open Go.RowKit

set_option maxRecDepth 100000 in
set_option maxHeartbeats 32000000 in
theorem FramingBack_true (k n0 : Int) (A : Option Addr) (n c : Nat) (zs : List Int) (w : World) (hr : Reads w w.heap.size 1 A n (zs.map (Value.int .i64))) (hn : n ≤ 9223372036854775807) (hw : ∀ z ∈ zs, -9223372036854775808 ≤ z ∧ z ≤ 9223372036854775807) (hk1 : -9223372036854775808 ≤ k) (hk2 : k ≤ 9223372036854775807) (hn1 : -9223372036854775808 ≤ n0) (hn2 : n0 ≤ 9223372036854775807) (htab : Tabs w) :
    Calls Tryd.prog 6 #[.int .i64 k, .int .i64 n0, .slice A n c] w fun e w' => e = .returned (.bool true) ∧ Below w.heap.size w w' := by
  have CMD := Lib.hid (fun w => made_any k n0 w hk1 hk2 hn1 hn2)
  have COT := Lib.hid (fun w hr => other09 A n c zs w hr hn hw)
  have TB := Lib.hid (fun X (h : Below w.heap.size w X) => htab.below h)
  have HZ := Lib.hid hr
  clear htab hk1 hk2 hn1 hn2 hr hn hw
  go_enter Tryd.func6, Tryd.ntmps6
  go_wp2_with fail
  (with_reducible refine (FramingKnown_true _ (TB.out _ (Below.refl _ _))).mono ?_); rintro e w1 ⟨rfl, g⟩
  have h1 := g
  have HZ := Lib.hid ((HZ.out.below g).more g.size)
  clear g
  go_wp2_with fail
  (with_reducible refine (CMD.out _).mono ?_); rintro e w2 ⟨K, n, rfl, hK1, hK3, hn, hKn, g⟩
  have h2 := h1.trans (g.mono h1.size)
  have HZ := Lib.hid ((HZ.out.below g).more g.size)
  clear g h1
  clear CMD
  obtain ⟨⟨L, E⟩, hL⟩ : ∃ z, fieldsT K n = z := ⟨_, rfl⟩
  have cF := fun w ht => pFields K n w ht
  unfold FldsPost9 at cF
  rw [hL] at cF
  simp only at cF
  have CF := Lib.hid cF
  have HA := Lib.hid (And.intro hK1 (And.intro hK3 (And.intro hn (And.intro hKn hL))))
  clear cF hK1 hK3 hn hKn hL
  have kb := Blk.new w2 48 #[.int .i64 (K : Int), .int .i64 (n : Int)]
  have q0 : (w2.alloc (.cells #[.int .i64 (K : Int), .int .i64 (n : Int)] 48)).cell? ⟨w2.heap.size, 0, none⟩ = some (.int .i64 (K : Int)) := kb.cell 0
  have q1 : (w2.alloc (.cells #[.int .i64 (K : Int), .int .i64 (n : Int)] 48)).cell? ⟨w2.heap.size, 1, none⟩ = some (.int .i64 (n : Int)) := kb.cell 1
  clear kb
  go_wp2_with fail
  clear q0 q1
  have g := (Below.refl w2.heap.size w2).alloc (Nat.le_refl _) (.cells #[.int .i64 (K : Int), .int .i64 (n : Int)] 48)
  have h3 := h2.trans (g.mono h2.size)
  have B0 := Lib.hid (Blk.new w2 48 #[.int .i64 (K : Int), .int .i64 (n : Int)])
  have HZ := Lib.hid ((HZ.out.below g).more g.size)
  generalize hgw : w2.alloc (.cells #[.int .i64 (K : Int), .int .i64 (n : Int)] 48) = w3 at *
  clear hgw g h2
  (with_reducible refine (CF.out _ (TB.out _ h3)).mono ?_); rintro e w4 ⟨A2, d2, rfl, _, hr, g⟩
  have h4 := h3.trans (g.mono h3.size)
  have HZ := Lib.hid ((HZ.out.below g).more g.size)
  have B0 := Lib.hid (B0.out.below g B0.out.lt)
  have HL := Lib.hid hr
  clear hr CF
  clear g h3
  go_wp2_with fail
  (with_reducible refine (COT.out _ HZ.out).mono ?_); rintro e w5 ⟨A3, d3, S, rfl, hS8, _, hSo, hr, g⟩
  have h5 := h4.trans (g.mono h4.size)
  have HZ := Lib.hid ((HZ.out.below g).more g.size)
  have B0 := Lib.hid (B0.out.below g B0.out.lt)
  have HL := Lib.hid ((HL.out.below g).more g.size)
  have HS := Lib.hid hr
  clear hr COT
  clear g h4
  clear HZ
  have K5 := Lib.hid (Below.refl w5.heap.size w5)
  have HL5 := Lib.hid HL.out
  have H25 := Lib.hid B0.out.lt
  have HH5 := Lib.hid h5.size
  have hba := back_all HA.out.1 HA.out.2.1 HA.out.2.2.1 HA.out.2.2.2.1 S hSo
  rw [HA.out.2.2.2.2] at hba
  simp only at hba
  obtain ⟨hE, hL1, hall, h2, hLs⟩ := hba
  subst hE
  obtain ⟨v1, X1, hrun1, ho1, hb1⟩ := own_run A3 S.length d3 S w5 HS.out (by omega)
  obtain ⟨v2, X2, hrun2, ho2, hb2⟩ := app_list ho1 hb1.size A2 L.length d2 L ((HL.out.below hb1).more hb1.size) (by omega)
  have hb12 := hb1.trans hb2
  obtain ⟨v3, w6, hrun3, ho3, hb3⟩ := app_list ho2 hb12.size A3 S.length d3 S ((HS.out.below hb12).more hb12.size) (by rw [List.length_append]; omega)
  have g := hb12.trans hb3
  obtain ⟨AL, hAL⟩ : ∃ AL, S ++ L ++ S = AL := ⟨_, rfl⟩
  have hlen : AL.length ≤ 17 := by rw [← hAL, List.length_append, List.length_append]; omega
  have hALs : fldsS AL := by
    intro f hf
    rw [← hAL] at hf
    rcases List.mem_append.1 hf with hf | hf
    · rcases List.mem_append.1 hf with hf | hf
      · have := otF_len f (hSo f hf); omega
      · have := hLs f hf; omega
    · have := otF_len f (hSo f hf); omega
  rw [hAL] at hall h2 ho3
  obtain ⟨A4, d4, rfl⟩ := own_slice ho3
  have R1 := Lib.hid hrun1
  have R2 := Lib.hid hrun2
  have R3 := Lib.hid hrun3
  have HO := Lib.hid ho3
  have HAL := Lib.hid (And.intro hlen (And.intro hALs (And.intro hall (And.intro h2 (And.intro hLs hL1)))))
  have HG := Lib.hid g
  clear hrun1 hrun2 hrun3 ho1 ho2 ho3 hb1 hb2 hb3 hb12 hlen hALs hall h2 hLs hSo hS8 g hL1 hAL
  go_wp2_with (at_builtin; first | refine wpList_append_run R1.out rfl _ _ rfl rfl rfl rfl ?_ | refine wpList_append_run R2.out rfl _ _ rfl rfl rfl rfl ?_ | refine wpList_append_run R3.out rfl _ _ rfl rfl rfl rfl ?_)
  have g := HG.out
  have h6 := h5.trans (g.mono h5.size)
  have B0 := Lib.hid (B0.out.below g B0.out.lt)
  have HL := Lib.hid ((HL.out.below g).more g.size)
  have HS := Lib.hid ((HS.out.below g).more g.size)
  have HL5 := Lib.hid (HL5.out.below (g.mono K5.out.size))
  have K5 := Lib.hid (K5.out.trans (g.mono K5.out.size))
  clear g h5
  clear R1 R2 R3 HG
  clear HL
  have HA4 := Lib.hid (Reads.of_own HO.out)
  have c1 := pOf A4 AL.length d4 AL w6 HA4.out (by have := HAL.out.1; omega) HAL.out.2.1
  rw [HAL.out.2.2.1] at c1
  unfold OfPost at c1
  simp only at c1
  have C1 := Lib.hid c1
  clear c1
  (with_reducible refine (C1.out).mono ?_); rintro e w7 ⟨rfl, g⟩
  clear C1
  have h7 := h6.trans (g.mono h6.size)
  have B0 := Lib.hid (B0.out.below g B0.out.lt)
  have HS := Lib.hid ((HS.out.below g).more g.size)
  have HL5 := Lib.hid (HL5.out.below (g.mono K5.out.size))
  have K5 := Lib.hid (K5.out.trans (g.mono K5.out.size))
  have HA4 := Lib.hid ((HA4.out.below g).more g.size)
  have HO := Lib.hid (own_below HO.out g)
  clear g h6
  have kb := Blk.new w7 48 #[.int .i64 (K : Int), .int .i64 (n : Int)]
  have q0 : (w7.alloc (.cells #[.int .i64 (K : Int), .int .i64 (n : Int)] 48)).cell? ⟨w7.heap.size, 0, none⟩ = some (.int .i64 (K : Int)) := kb.cell 0
  have q1 : (w7.alloc (.cells #[.int .i64 (K : Int), .int .i64 (n : Int)] 48)).cell? ⟨w7.heap.size, 1, none⟩ = some (.int .i64 (n : Int)) := kb.cell 1
  clear kb
  have hlen := HAL.out.1
  go_wp2_with fail
  clear q0 q1
  have g := (Below.refl w7.heap.size w7).alloc (Nat.le_refl _) (.cells #[.int .i64 (K : Int), .int .i64 (n : Int)] 48)
  have h8 := h7.trans (g.mono h7.size)
  have B1 := Lib.hid (Blk.new w7 48 #[.int .i64 (K : Int), .int .i64 (n : Int)])
  have B0 := Lib.hid (B0.out.below g B0.out.lt)
  have HS := Lib.hid ((HS.out.below g).more g.size)
  have HL5 := Lib.hid (HL5.out.below (g.mono K5.out.size))
  have K5 := Lib.hid (K5.out.trans (g.mono K5.out.size))
  have HA4 := Lib.hid ((HA4.out.below g).more g.size)
  have HO := Lib.hid (own_below HO.out g)
  generalize hgw : w7.alloc (.cells #[.int .i64 (K : Int), .int .i64 (n : Int)] 48) = w8 at *
  clear hgw g h7
  obtain ⟨RV, hRV⟩ : ∃ RV, AL.reverse = RV := ⟨_, rfl⟩
  have hRl : RV.length = AL.length := by rw [← hRV, List.length_reverse]
  have HRV := Lib.hid (And.intro hRV hRl)
  clear hRV hRl
  go_loopw [15, 16] (fun o i wr => ∃ (z : Int) (m : Nat), i = .int .i64 z ∧ m ≤ AL.length ∧ Hid (z = (m : Int) - 1) ∧ Hid (wr.ownsRow w8.heap.size 36 2 o (RV.take (AL.length - m)).length (fldsC (RV.take (AL.length - m)))) ∧ Hid (Below w8.heap.size w8 wr)) (fun _ i _ => (intOf i + 1).toNat)
  case atStart => exact ⟨_, AL.length, rfl, Nat.le_refl _, rfl, by rw [Nat.sub_self]; exact World.ownsRow_nil _ _ _ _, Below.refl _ _⟩
  case round =>
    obtain ⟨z, m, rfl, hm, hz, HQ, hb⟩ := hrel
    rename World => w9
    rcases m with _ | q
    · obtain rfl : z = -1 := by have := hz.out; omega
      have hR := HQ.out
      rw [Nat.sub_zero, ← HRV.out.2, List.take_length] at hR
      have HQ := Lib.hid hR
      clear hR
      have g := hb.out
      have h9 := h8.trans (g.mono h8.size)
      have B0 := Lib.hid (B0.out.below g B0.out.lt)
      have HS := Lib.hid ((HS.out.below g).more g.size)
      have HL5 := Lib.hid (HL5.out.below (g.mono K5.out.size))
      have K5 := Lib.hid (K5.out.trans (g.mono K5.out.size))
      have HA4 := Lib.hid ((HA4.out.below g).more g.size)
      have HO := Lib.hid (own_below HO.out g)
      have B1 := Lib.hid (B1.out.below g B1.out.lt)
      clear hb g h8
      obtain ⟨A5, d5, rfl⟩ := own_slice HQ.out
      go_wp2_with fail
      have heR : ofT RV = (K, n, 0) := by rw [← HRV.out.1, ofT_rev]; exact HAL.out.2.2.1
      have hsR : fldsS RV := fun f hf => HAL.out.2.1 f (by rw [← HRV.out.1, List.mem_reverse] at hf; exact hf)
      have c1 := pOf A5 RV.length d5 RV w9 (Reads.of_own HQ.out) (by have := HAL.out.1; have := HRV.out.2; omega) hsR
      rw [heR] at c1
      unfold OfPost at c1
      simp only at c1
      have C1 := Lib.hid c1
      clear c1
      (with_reducible refine (C1.out).mono ?_); rintro e w10 ⟨rfl, g⟩
      clear C1
      have h10 := h9.trans (g.mono h9.size)
      have B0 := Lib.hid (B0.out.below g B0.out.lt)
      have HS := Lib.hid ((HS.out.below g).more g.size)
      have HL5 := Lib.hid (HL5.out.below (g.mono K5.out.size))
      have K5 := Lib.hid (K5.out.trans (g.mono K5.out.size))
      have HA4 := Lib.hid ((HA4.out.below g).more g.size)
      have HO := Lib.hid (own_below HO.out g)
      have B1 := Lib.hid (B1.out.below g B1.out.lt)
      clear g h9
      clear heR hsR HQ HRV
      have kb := Blk.new w10 48 #[.int .i64 (K : Int), .int .i64 (n : Int)]
      have q0 : (w10.alloc (.cells #[.int .i64 (K : Int), .int .i64 (n : Int)] 48)).cell? ⟨w10.heap.size, 0, none⟩ = some (.int .i64 (K : Int)) := kb.cell 0
      have q1 : (w10.alloc (.cells #[.int .i64 (K : Int), .int .i64 (n : Int)] 48)).cell? ⟨w10.heap.size, 1, none⟩ = some (.int .i64 (n : Int)) := kb.cell 1
      clear kb
      have kqa := B0.out.below ((Below.refl w10.heap.size w10).alloc (Nat.le_refl _) (.cells #[.int .i64 (K : Int), .int .i64 (n : Int)] 48)) B0.out.lt
      have qa0 : (w10.alloc (.cells #[.int .i64 (K : Int), .int .i64 (n : Int)] 48)).cell? ⟨w2.heap.size, 0, none⟩ = some (.int .i64 (K : Int)) := kqa.cell 0
      have qa1 : (w10.alloc (.cells #[.int .i64 (K : Int), .int .i64 (n : Int)] 48)).cell? ⟨w2.heap.size, 1, none⟩ = some (.int .i64 (n : Int)) := kqa.cell 1
      clear kqa
      have kqb := B1.out.below ((Below.refl w10.heap.size w10).alloc (Nat.le_refl _) (.cells #[.int .i64 (K : Int), .int .i64 (n : Int)] 48)) B1.out.lt
      have qb0 : (w10.alloc (.cells #[.int .i64 (K : Int), .int .i64 (n : Int)] 48)).cell? ⟨w7.heap.size, 0, none⟩ = some (.int .i64 (K : Int)) := kqb.cell 0
      have qb1 : (w10.alloc (.cells #[.int .i64 (K : Int), .int .i64 (n : Int)] 48)).cell? ⟨w7.heap.size, 1, none⟩ = some (.int .i64 (n : Int)) := kqb.cell 1
      clear kqb
      have hqn := neFr (K : Int) (n : Int) (K : Int) (n : Int)
      have hq2 : (!((K : Int) == (K : Int) && (n : Int) == (n : Int))) = false := by simp
      rw [hq2] at hqn
      clear hq2
      have cK := pCheck (K : Int) (n : Int)
      rw [show ckT (K : Int) (n : Int) = 0 from ck0 (by have := HA.out; omega) (by have := HA.out; omega)] at cK
      have CK := Lib.hid cK
      clear cK
      go_wp2_with fail
      clear q0 q1 qa0 qa1 qb0 qb1
      have g := (Below.refl w10.heap.size w10).alloc (Nat.le_refl _) (.cells #[.int .i64 (K : Int), .int .i64 (n : Int)] 48)
      have h11 := h10.trans (g.mono h10.size)
      have B2 := Lib.hid (Blk.new w10 48 #[.int .i64 (K : Int), .int .i64 (n : Int)])
      have B0 := Lib.hid (B0.out.below g B0.out.lt)
      have HS := Lib.hid ((HS.out.below g).more g.size)
      have HL5 := Lib.hid (HL5.out.below (g.mono K5.out.size))
      have K5 := Lib.hid (K5.out.trans (g.mono K5.out.size))
      have HA4 := Lib.hid ((HA4.out.below g).more g.size)
      have HO := Lib.hid (own_below HO.out g)
      have B1 := Lib.hid (B1.out.below g B1.out.lt)
      generalize hgw : w10.alloc (.cells #[.int .i64 (K : Int), .int .i64 (n : Int)] 48) = w11 at *
      clear hgw g h10
      (with_reducible refine (CK.out _).mono ?_); rintro e w12 ⟨rfl, g⟩
      clear CK hqn
      clear B1
      clear B2
      clear HS
      clear HA4
      have h12 := h11.trans (g.mono h11.size)
      have B0 := Lib.hid (B0.out.below g B0.out.lt)
      have HL5 := Lib.hid (HL5.out.below (g.mono K5.out.size))
      have K5 := Lib.hid (K5.out.trans (g.mono K5.out.size))
      have HO := Lib.hid (own_below HO.out g)
      clear g h11
      have qa0 : w12.cell? ⟨w2.heap.size, 0, none⟩ = some (.int .i64 (K : Int)) := B0.out.cell 0
      have qa1 : w12.cell? ⟨w2.heap.size, 1, none⟩ = some (.int .i64 (n : Int)) := B0.out.cell 1
      by_cases hK : K = 2
      · have e1 : (((K : Nat) : Int) != 2) = false := by rw [hK]; rfl
        obtain ⟨hL2, hall2⟩ := HAL.out.2.2.2.1 hK
        obtain ⟨D, hD⟩ : ∃ D, Lib.decDigits n = D := ⟨_, rfl⟩
        have hbl := back_last HA.out.2.2.1
        rw [hD] at hL2 hbl
        subst hL2
        obtain ⟨v4, w13, hrun4, ho4, hb4⟩ := app_list HO.out K5.out.size A2 1 d2 [(clN, D)] (HL5.out.more K5.out.size) (by simp; have := HAL.out.1; omega)
        have heq : ofT (AL ++ [(clN, D)]) = (K, n, 0) := by rw [hK]; exact hall2
        have heq2 : ofT [([67, 79, 78, 84, 69, 78, 84, 45, 108, 101, 110, 103, 116, 104], D ++ [32, 44, 9, 48] ++ D)] = (K, n, 0) := by rw [hK]; exact hbl.1
        have hDl := hbl.2
        have hs4 : fldsS (AL ++ [(clN, D)]) := by
          intro f hf
          rcases List.mem_append.1 hf with hf | hf
          · exact HAL.out.2.1 f hf
          · rw [List.mem_singleton.1 hf]; exact ⟨(by decide : clN.length ≤ 500), by simp only; omega⟩
        have hll : (AL ++ [(clN, D)]).length ≤ 18 := by rw [List.length_append]; have := HAL.out.1; simp; omega
        obtain ⟨LL, hLL⟩ : ∃ LL, AL ++ [(clN, D)] = LL := ⟨_, rfl⟩
        rw [hLL] at ho4 heq hs4 hll
        have HLL := Lib.hid (And.intro hs4 hll)
        clear hs4 hll hLL
        obtain ⟨A6, d6, rfl⟩ := own_slice ho4
        have HRUN := Lib.hid hrun4
        have HO4 := Lib.hid ho4
        have HB4 := Lib.hid hb4
        have HE := Lib.hid (And.intro heq (And.intro heq2 hDl))
        clear hrun4 ho4 hb4 heq heq2 hDl hbl hall2 hD hK
        go_wp2_with (at_builtin; refine wpList_append_run HRUN.out rfl _ _ rfl rfl rfl rfl ?_)
        clear qa0 qa1 HRUN
        have h13 := h12.trans (HB4.out.mono HH5.out)
        have B0 := Lib.hid (B0.out.below HB4.out H25.out)
        have HL5 := Lib.hid (HL5.out.below HB4.out)
        have K5 := Lib.hid (K5.out.trans HB4.out)
        clear HB4 h12 HO
        have c1 := pOf A6 LL.length d6 LL w13 (Reads.of_own HO4.out) (by have := HLL.out.2; omega) HLL.out.1
        rw [HE.out.1] at c1
        unfold OfPost at c1
        simp only at c1
        have C1 := Lib.hid c1
        clear c1
        (with_reducible refine (C1.out).mono ?_); rintro e w14 ⟨rfl, g⟩
        clear C1
        have h14 := h13.trans (g.mono h13.size)
        have B0 := Lib.hid (B0.out.below g B0.out.lt)
        have HL5 := Lib.hid (HL5.out.below (g.mono K5.out.size))
        have K5 := Lib.hid (K5.out.trans (g.mono K5.out.size))
        clear g h13
        clear HLL HO4
        have kb := Blk.new w14 48 #[.int .i64 (K : Int), .int .i64 (n : Int)]
        have q0 : (w14.alloc (.cells #[.int .i64 (K : Int), .int .i64 (n : Int)] 48)).cell? ⟨w14.heap.size, 0, none⟩ = some (.int .i64 (K : Int)) := kb.cell 0
        have q1 : (w14.alloc (.cells #[.int .i64 (K : Int), .int .i64 (n : Int)] 48)).cell? ⟨w14.heap.size, 1, none⟩ = some (.int .i64 (n : Int)) := kb.cell 1
        clear kb
        obtain ⟨b, o, rfl, hbl, _, hc⟩ := HL5.out.fld 0 (by simp)
        have hc1 : w14.cell? ⟨b, o + 1, none⟩ = some (.string (bs D)) := by simpa using hc
        have hc2 : (w14.alloc (.cells #[.int .i64 (K : Int), .int .i64 (n : Int)] 48)).cell? ⟨b, o + 1, none⟩ = some (.string (bs D)) := (((Below.refl w14.heap.size w14).alloc (Nat.le_refl _) (.cells #[.int .i64 (K : Int), .int .i64 (n : Int)] 48)).cell (p := ⟨b, o + 1, none⟩) (Nat.lt_of_lt_of_le hbl K5.out.size)).trans hc1
        have HBL := Lib.hid (And.intro hbl hc1)
        clear hbl hc hc1
        have sD : (bs D).size ≤ 4 := by rw [bs_size]; exact HE.out.2.2
        go_wp2_with fail
        clear q0 q1
        have g := (Below.refl w14.heap.size w14).alloc (Nat.le_refl _) (.cells #[.int .i64 (K : Int), .int .i64 (n : Int)] 48)
        have h15 := h14.trans (g.mono h14.size)
        have B3 := Lib.hid (Blk.new w14 48 #[.int .i64 (K : Int), .int .i64 (n : Int)])
        have B0 := Lib.hid (B0.out.below g B0.out.lt)
        have HL5 := Lib.hid (HL5.out.below (g.mono K5.out.size))
        have K5 := Lib.hid (K5.out.trans (g.mono K5.out.size))
        generalize hgw : w14.alloc (.cells #[.int .i64 (K : Int), .int .i64 (n : Int)] 48) = w15 at *
        clear hgw g h14
        obtain ⟨dd, hdd⟩ : ∃ dd, bs D = dd := ⟨_, rfl⟩
        have hcat : dd ++ ⟨#[32, 44, 9, 48]⟩ ++ dd = bs (D ++ [32, 44, 9, 48] ++ D) := by rw [← hdd]; exact ba_ext (by first | (simp only [append_toList, bs_list]; done) | (simp only [append_toList, bs_list]; simp))
        rw [hdd] at hc2 sD HBL
        have hlt : b < w15.heap.size := Nat.lt_of_lt_of_le HBL.out.1 K5.out.size
        have cO := fun A X hr => pOf A 1 1 [([67, 79, 78, 84, 69, 78, 84, 45, 108, 101, 110, 103, 116, 104], D ++ [32, 44, 9, 48] ++ D)] X hr (by omega) (fun f hf => by have := HE.out.2.2; rw [List.mem_singleton.1 hf]; exact ⟨(by decide : ([67, 79, 78, 84, 69, 78, 84, 45, 108, 101, 110, 103, 116, 104] : List UInt8).length ≤ 500), by simp; omega⟩)
        rw [HE.out.2.1] at cO
        unfold OfPost at cO
        simp only at cO
        have CO := Lib.hid cO
        have hL1 : ∀ w : World, (binOp .add 9 (.string dd) (.string ⟨#[32, 44, 9, 48]⟩)).run Tryd.prog w = .ok (.string (dd ++ ⟨#[32, 44, 9, 48]⟩)) w := fun w => by
          have h : dd.size + (⟨#[32, 44, 9, 48]⟩ : ByteArray).size ≤ 9223372036854775807 := by show dd.size + 4 ≤ _; omega
          simp only [binOp, run_string_add_sum _ _ _ h]
        have hL2 : ∀ w : World, (binOp .add 9 (.string (dd ++ ⟨#[32, 44, 9, 48]⟩)) (.string dd)).run Tryd.prog w = .ok (.string (dd ++ ⟨#[32, 44, 9, 48]⟩ ++ dd)) w := fun w => by
          have h : (dd ++ (⟨#[32, 44, 9, 48]⟩ : ByteArray)).size + dd.size ≤ 9223372036854775807 := by rw [ByteArray.size_append]; show dd.size + 4 + dd.size ≤ _; omega
          simp only [binOp, run_string_add_sum _ _ _ h]
        have HCAT := Lib.hid hcat
        have HLT := Lib.hid hlt
        have n1 : ¬ (9223372036854775803 < dd.size) := by omega
        have n2 : ¬ (9223372036854775807 < dd.size + 4) := by omega
        have n3 : dd.size ≤ 9223372036854775803 := by omega
        have n4 : ¬ (9223372036854775807 < dd.size + 4 + dd.size) := by omega
        have n5 : dd.size + 4 + dd.size ≤ 9223372036854775807 := by omega
        have n6 : dd.size + 4 ≤ 9223372036854775807 := by omega
        have D8 : Hid (decide ((8 : Int) < (dd.size : Int)) = false) := by
          show _ = false
          rw [decide_eq_false_iff_not]
          omega
        have m1 : ¬ (w15.heap.size + 1 = b) := by omega
        have m2 : ¬ (b = w15.heap.size + 1) := by omega
        have m3 : ¬ (w15.heap.size = b) := by omega
        have m4 : ¬ (b = w15.heap.size) := by omega
        have HD0 : Hid (Below w15.heap.size w15 w15.drew) := hide (Below.refl _ _).drew
        have y0 : w15.drew.cell? ⟨b, o + 1, none⟩ = some (.string dd) := hc2
        clear cO hcat hlt hdd
        have i0 : (0 : Int) < 1 := by omega
        have bA := (Below.refl w15.heap.size w15).alloc (Nat.le_refl _) (.cells #[.string ⟨#[67, 79, 78, 84, 69, 78, 84, 45, 108, 101, 110, 103, 116, 104]⟩, .string (dd ++ ⟨#[32, 44, 9, 48]⟩ ++ dd)] 36)
        have rA := reads_newF w15 36 [([67, 79, 78, 84, 69, 78, 84, 45, 108, 101, 110, 103, 116, 104], D ++ [32, 44, 9, 48] ++ D)] #[.string ⟨#[67, 79, 78, 84, 69, 78, 84, 45, 108, 101, 110, 103, 116, 104]⟩, .string (dd ++ ⟨#[32, 44, 9, 48]⟩ ++ dd)] (by rw [HCAT.out]; rfl)
        have RA : Hid (Reads (w15.alloc (.cells #[.string ⟨#[67, 79, 78, 84, 69, 78, 84, 45, 108, 101, 110, 103, 116, 104]⟩, .string (dd ++ ⟨#[32, 44, 9, 48]⟩ ++ dd)] 36)).drew (w15.alloc (.cells #[.string ⟨#[67, 79, 78, 84, 69, 78, 84, 45, 108, 101, 110, 103, 116, 104]⟩, .string (dd ++ ⟨#[32, 44, 9, 48]⟩ ++ dd)] 36)).drew.heap.size 2 (some ⟨w15.heap.size, 0, none⟩) 1 (fldsC [([67, 79, 78, 84, 69, 78, 84, 45, 108, 101, 110, 103, 116, 104], D ++ [32, 44, 9, 48] ++ D)])) := rA
        have DA : Hid (Below w15.heap.size w15 (w15.alloc (.cells #[.string ⟨#[67, 79, 78, 84, 69, 78, 84, 45, 108, 101, 110, 103, 116, 104]⟩, .string (dd ++ ⟨#[32, 44, 9, 48]⟩ ++ dd)] 36)).drew) := bA.drew
        have yA : Hid ((w15.alloc (.cells #[.string ⟨#[67, 79, 78, 84, 69, 78, 84, 45, 108, 101, 110, 103, 116, 104]⟩, .string (dd ++ ⟨#[32, 44, 9, 48]⟩ ++ dd)] 36)).drew.cell? ⟨b, o + 1, none⟩ = some (.string dd)) := ((bA.cell (p := ⟨b, o + 1, none⟩) HLT.out).trans hc2)
        have TA : Hid (b < (w15.alloc (.cells #[.string ⟨#[67, 79, 78, 84, 69, 78, 84, 45, 108, 101, 110, 103, 116, 104]⟩, .string (dd ++ ⟨#[32, 44, 9, 48]⟩ ++ dd)] 36)).drew.heap.size) := Nat.lt_of_lt_of_le HLT.out bA.size
        have bB := bA.alloc bA.size (.cells #[.int .i64 0, .int .i64 0] 48)
        have rB := rA.alloc (Nat.le_refl _) (.cells #[.int .i64 0, .int .i64 0] 48)
        have rB := rB.more ((Below.refl (w15.alloc (.cells #[.string ⟨#[67, 79, 78, 84, 69, 78, 84, 45, 108, 101, 110, 103, 116, 104]⟩, .string (dd ++ ⟨#[32, 44, 9, 48]⟩ ++ dd)] 36)).heap.size (w15.alloc (.cells #[.string ⟨#[67, 79, 78, 84, 69, 78, 84, 45, 108, 101, 110, 103, 116, 104]⟩, .string (dd ++ ⟨#[32, 44, 9, 48]⟩ ++ dd)] 36))).alloc (Nat.le_refl _) (.cells #[.int .i64 0, .int .i64 0] 48)).size
        have sA : (w15.alloc (.cells #[.string ⟨#[67, 79, 78, 84, 69, 78, 84, 45, 108, 101, 110, 103, 116, 104]⟩, .string (dd ++ ⟨#[32, 44, 9, 48]⟩ ++ dd)] 36)).heap.size = w15.heap.size + 1 := World.size_alloc _ _
        have fB := Blk.new (w15.alloc (.cells #[.string ⟨#[67, 79, 78, 84, 69, 78, 84, 45, 108, 101, 110, 103, 116, 104]⟩, .string (dd ++ ⟨#[32, 44, 9, 48]⟩ ++ dd)] 36)) 48 #[.int .i64 0, .int .i64 0]
        rw [sA] at fB
        have RB : Hid (Reads ((w15.alloc (.cells #[.string ⟨#[67, 79, 78, 84, 69, 78, 84, 45, 108, 101, 110, 103, 116, 104]⟩, .string (dd ++ ⟨#[32, 44, 9, 48]⟩ ++ dd)] 36)).alloc (.cells #[.int .i64 0, .int .i64 0] 48)).drew ((w15.alloc (.cells #[.string ⟨#[67, 79, 78, 84, 69, 78, 84, 45, 108, 101, 110, 103, 116, 104]⟩, .string (dd ++ ⟨#[32, 44, 9, 48]⟩ ++ dd)] 36)).alloc (.cells #[.int .i64 0, .int .i64 0] 48)).drew.heap.size 2 (some ⟨w15.heap.size, 0, none⟩) 1 (fldsC [([67, 79, 78, 84, 69, 78, 84, 45, 108, 101, 110, 103, 116, 104], D ++ [32, 44, 9, 48] ++ D)])) := rB
        have DB : Hid (Below w15.heap.size w15 ((w15.alloc (.cells #[.string ⟨#[67, 79, 78, 84, 69, 78, 84, 45, 108, 101, 110, 103, 116, 104]⟩, .string (dd ++ ⟨#[32, 44, 9, 48]⟩ ++ dd)] 36)).alloc (.cells #[.int .i64 0, .int .i64 0] 48)).drew) := bB.drew
        have yB : Hid (((w15.alloc (.cells #[.string ⟨#[67, 79, 78, 84, 69, 78, 84, 45, 108, 101, 110, 103, 116, 104]⟩, .string (dd ++ ⟨#[32, 44, 9, 48]⟩ ++ dd)] 36)).alloc (.cells #[.int .i64 0, .int .i64 0] 48)).drew.cell? ⟨b, o + 1, none⟩ = some (.string dd)) := ((bB.cell (p := ⟨b, o + 1, none⟩) HLT.out).trans hc2)
        have TB : Hid (b < ((w15.alloc (.cells #[.string ⟨#[67, 79, 78, 84, 69, 78, 84, 45, 108, 101, 110, 103, 116, 104]⟩, .string (dd ++ ⟨#[32, 44, 9, 48]⟩ ++ dd)] 36)).alloc (.cells #[.int .i64 0, .int .i64 0] 48)).drew.heap.size) := Nat.lt_of_lt_of_le HLT.out bB.size
        have bC0 := (Below.refl w15.heap.size w15).alloc (Nat.le_refl _) (.cells #[.int .i64 0, .int .i64 0] 48)
        have bC := bC0.alloc bC0.size (.cells #[.string ⟨#[67, 79, 78, 84, 69, 78, 84, 45, 108, 101, 110, 103, 116, 104]⟩, .string (dd ++ ⟨#[32, 44, 9, 48]⟩ ++ dd)] 36)
        have sC : (w15.alloc (.cells #[.int .i64 0, .int .i64 0] 48)).heap.size = w15.heap.size + 1 := World.size_alloc _ _
        have rC := reads_newF (w15.alloc (.cells #[.int .i64 0, .int .i64 0] 48)) 36 [([67, 79, 78, 84, 69, 78, 84, 45, 108, 101, 110, 103, 116, 104], D ++ [32, 44, 9, 48] ++ D)] #[.string ⟨#[67, 79, 78, 84, 69, 78, 84, 45, 108, 101, 110, 103, 116, 104]⟩, .string (dd ++ ⟨#[32, 44, 9, 48]⟩ ++ dd)] (by rw [HCAT.out]; rfl)
        rw [sC] at rC
        have fC := (Blk.new w15 48 #[.int .i64 0, .int .i64 0]).alloc (.cells #[.string ⟨#[67, 79, 78, 84, 69, 78, 84, 45, 108, 101, 110, 103, 116, 104]⟩, .string (dd ++ ⟨#[32, 44, 9, 48]⟩ ++ dd)] 36)
        have RC : Hid (Reads ((w15.alloc (.cells #[.int .i64 0, .int .i64 0] 48)).alloc (.cells #[.string ⟨#[67, 79, 78, 84, 69, 78, 84, 45, 108, 101, 110, 103, 116, 104]⟩, .string (dd ++ ⟨#[32, 44, 9, 48]⟩ ++ dd)] 36)).drew ((w15.alloc (.cells #[.int .i64 0, .int .i64 0] 48)).alloc (.cells #[.string ⟨#[67, 79, 78, 84, 69, 78, 84, 45, 108, 101, 110, 103, 116, 104]⟩, .string (dd ++ ⟨#[32, 44, 9, 48]⟩ ++ dd)] 36)).drew.heap.size 2 (some ⟨w15.heap.size + 1, 0, none⟩) 1 (fldsC [([67, 79, 78, 84, 69, 78, 84, 45, 108, 101, 110, 103, 116, 104], D ++ [32, 44, 9, 48] ++ D)])) := rC
        have DC : Hid (Below w15.heap.size w15 ((w15.alloc (.cells #[.int .i64 0, .int .i64 0] 48)).alloc (.cells #[.string ⟨#[67, 79, 78, 84, 69, 78, 84, 45, 108, 101, 110, 103, 116, 104]⟩, .string (dd ++ ⟨#[32, 44, 9, 48]⟩ ++ dd)] 36)).drew) := bC.drew
        have yC : Hid (((w15.alloc (.cells #[.int .i64 0, .int .i64 0] 48)).alloc (.cells #[.string ⟨#[67, 79, 78, 84, 69, 78, 84, 45, 108, 101, 110, 103, 116, 104]⟩, .string (dd ++ ⟨#[32, 44, 9, 48]⟩ ++ dd)] 36)).drew.cell? ⟨b, o + 1, none⟩ = some (.string dd)) := ((bC.cell (p := ⟨b, o + 1, none⟩) HLT.out).trans hc2)
        have TC : Hid (b < ((w15.alloc (.cells #[.int .i64 0, .int .i64 0] 48)).alloc (.cells #[.string ⟨#[67, 79, 78, 84, 69, 78, 84, 45, 108, 101, 110, 103, 116, 104]⟩, .string (dd ++ ⟨#[32, 44, 9, 48]⟩ ++ dd)] 36)).drew.heap.size) := Nat.lt_of_lt_of_le HLT.out bC.size
        have FB : Hid (Blk ((w15.alloc (.cells #[.string ⟨#[67, 79, 78, 84, 69, 78, 84, 45, 108, 101, 110, 103, 116, 104]⟩, .string (dd ++ ⟨#[32, 44, 9, 48]⟩ ++ dd)] 36)).alloc (.cells #[.int .i64 0, .int .i64 0] 48)).drew (w15.heap.size + 1) 48 #[.int .i64 0, .int .i64 0]) := fB
        have FC : Hid (Blk ((w15.alloc (.cells #[.int .i64 0, .int .i64 0] 48)).alloc (.cells #[.string ⟨#[67, 79, 78, 84, 69, 78, 84, 45, 108, 101, 110, 103, 116, 104]⟩, .string (dd ++ ⟨#[32, 44, 9, 48]⟩ ++ dd)] 36)).drew w15.heap.size 48 #[.int .i64 0, .int .i64 0]) := fC
        clear bA rA bB rB sA fB bC0 bC sC rC fC
        go_wp2_with fail
        go_region_held3 (fun w' => w'.cell? ⟨b, o + 1, none⟩ = some (.string dd)) (go_keep) (first
            | (go_at_call 27; (with_reducible refine (CO.out _ _ RA.out).mono ?_); rintro r va ⟨rfl, hva⟩; have z0 := (hva.cell (p := ⟨b, o + 1, none⟩) TA.out).trans yA.out; have hv2 : Hid (Below w15.heap.size w15 va) := hide (DA.out.trans (hva.mono DA.out.size)); have m5 : ¬ (va.heap.size = b) := fun e => Nat.lt_irrefl b (Nat.lt_of_lt_of_eq (Nat.lt_of_lt_of_le TA.out hva.size) e); have m6 : ¬ (b = va.heap.size) := fun e => m5 e.symm; clear hva)
            | (go_at_call 27; (with_reducible refine (CO.out _ _ RB.out).mono ?_); rintro r va ⟨rfl, hva⟩; have z0 := (hva.cell (p := ⟨b, o + 1, none⟩) TB.out).trans yB.out; have hv2 : Hid (Below w15.heap.size w15 va) := hide (DB.out.trans (hva.mono DB.out.size)); have kF := FB.out.below hva FB.out.lt; have z1 : va.cell? ⟨w15.heap.size + 1, 0, none⟩ = some (.int .i64 0) := kF.cell 0; have z2 : va.cell? ⟨w15.heap.size + 1, 1, none⟩ = some (.int .i64 0) := kF.cell 1; have z3 : va.frozen? ⟨w15.heap.size + 1, 0, none⟩ = false := kF.frozen 0; have z4 : va.frozen? ⟨w15.heap.size + 1, 1, none⟩ = false := kF.frozen 1; have KF := Lib.hid kF; clear kF; clear hva)
            | (go_at_call 27; (with_reducible refine (CO.out _ _ RC.out).mono ?_); rintro r va ⟨rfl, hva⟩; have z0 := (hva.cell (p := ⟨b, o + 1, none⟩) TC.out).trans yC.out; have hv2 : Hid (Below w15.heap.size w15 va) := hide (DC.out.trans (hva.mono DC.out.size)); have kF := FC.out.below hva FC.out.lt; have z1 : va.cell? ⟨w15.heap.size, 0, none⟩ = some (.int .i64 0) := kF.cell 0; have z2 : va.cell? ⟨w15.heap.size, 1, none⟩ = some (.int .i64 0) := kF.cell 1; have z3 : va.frozen? ⟨w15.heap.size, 0, none⟩ = false := kF.frozen 0; have z4 : va.frozen? ⟨w15.heap.size, 1, none⟩ = false := kF.frozen 1; have KF := Lib.hid kF; clear kF; clear hva))
        all_goals clear RA RB RC DA DB DC yA yB yC TA TB TC FB FC CO HCAT HD0 y0 hL1 hL2 n1 n2 n3 n4 n5 n6
        all_goals first
          | (have kg := (KF.out.set_ 0 (.int .i64 (K : Int))).set_ 1 (.int .i64 (n : Int)); have bX : Below w15.heap.size w15 ((va.setCell ⟨w15.heap.size + 1, 0, none⟩ (.int .i64 (K : Int))).setCell ⟨w15.heap.size + 1, 1, none⟩ (.int .i64 (n : Int))) := (hv2.out.setCell (Nat.le_succ _) _).setCell (Nat.le_succ _) _
             generalize ((va.setCell ⟨w15.heap.size + 1, 0, none⟩ (.int .i64 (K : Int))).setCell ⟨w15.heap.size + 1, 1, none⟩ (.int .i64 (n : Int))) = w16 at kg bX ⊢
             have kB0 := B0.out.below bX B0.out.lt
             have kB3 := B3.out.below bX B3.out.lt
             have p0 : w16.cell? ⟨w2.heap.size, 0, none⟩ = some (.int .i64 (K : Int)) := kB0.cell 0
             have r0 : w16.cell? ⟨w14.heap.size, 0, none⟩ = some (.int .i64 (K : Int)) := kB3.cell 0
             have s0 : w16.cell? ⟨w15.heap.size + 1, 0, none⟩ = some (.int .i64 (K : Int)) := kg.cell 0
             have p1 : w16.cell? ⟨w2.heap.size, 1, none⟩ = some (.int .i64 (n : Int)) := kB0.cell 1
             have r1 : w16.cell? ⟨w14.heap.size, 1, none⟩ = some (.int .i64 (n : Int)) := kB3.cell 1
             have s1 : w16.cell? ⟨w15.heap.size + 1, 1, none⟩ = some (.int .i64 (n : Int)) := kg.cell 1
             have lc : w16.cell? ⟨b, o + 1, none⟩ = some (.string dd) := (bX.cell (p := ⟨b, o + 1, none⟩) HLT.out).trans hc2
             have H16 := Lib.hid (h15.trans (bX.mono h15.size))
             have hq := eqFr (K : Int) (n : Int) (K : Int) (n : Int)
             rw [beq_self_eq_true, beq_self_eq_true, Bool.and_true] at hq
             have d8 : decide ((8 : Int) < (dd.size : Int)) = false := D8.out
             clear kg bX kB0 kB3
             go_wp2_with fail
             go_ret
             exact ⟨rfl, H16.out⟩)
          | (have kg := (KF.out.set_ 0 (.int .i64 (K : Int))).set_ 1 (.int .i64 (n : Int)); have bX : Below w15.heap.size w15 ((va.setCell ⟨w15.heap.size, 0, none⟩ (.int .i64 (K : Int))).setCell ⟨w15.heap.size, 1, none⟩ (.int .i64 (n : Int))) := (hv2.out.setCell (Nat.le_refl _) _).setCell (Nat.le_refl _) _
             generalize ((va.setCell ⟨w15.heap.size, 0, none⟩ (.int .i64 (K : Int))).setCell ⟨w15.heap.size, 1, none⟩ (.int .i64 (n : Int))) = w16 at kg bX ⊢
             have kB0 := B0.out.below bX B0.out.lt
             have kB3 := B3.out.below bX B3.out.lt
             have p0 : w16.cell? ⟨w2.heap.size, 0, none⟩ = some (.int .i64 (K : Int)) := kB0.cell 0
             have r0 : w16.cell? ⟨w14.heap.size, 0, none⟩ = some (.int .i64 (K : Int)) := kB3.cell 0
             have s0 : w16.cell? ⟨w15.heap.size, 0, none⟩ = some (.int .i64 (K : Int)) := kg.cell 0
             have p1 : w16.cell? ⟨w2.heap.size, 1, none⟩ = some (.int .i64 (n : Int)) := kB0.cell 1
             have r1 : w16.cell? ⟨w14.heap.size, 1, none⟩ = some (.int .i64 (n : Int)) := kB3.cell 1
             have s1 : w16.cell? ⟨w15.heap.size, 1, none⟩ = some (.int .i64 (n : Int)) := kg.cell 1
             have lc : w16.cell? ⟨b, o + 1, none⟩ = some (.string dd) := (bX.cell (p := ⟨b, o + 1, none⟩) HLT.out).trans hc2
             have H16 := Lib.hid (h15.trans (bX.mono h15.size))
             have hq := eqFr (K : Int) (n : Int) (K : Int) (n : Int)
             rw [beq_self_eq_true, beq_self_eq_true, Bool.and_true] at hq
             have d8 : decide ((8 : Int) < (dd.size : Int)) = false := D8.out
             clear kg bX kB0 kB3
             go_wp2_with fail
             go_ret
             exact ⟨rfl, H16.out⟩)
          | (have kg := Blk.new va 48 #[.int .i64 (K : Int), .int .i64 (n : Int)]; have bX : Below w15.heap.size w15 (va.alloc (.cells #[.int .i64 (K : Int), .int .i64 (n : Int)] 48)) := hv2.out.alloc hv2.out.size _
             generalize (va.alloc (.cells #[.int .i64 (K : Int), .int .i64 (n : Int)] 48)) = w16 at kg bX ⊢
             have kB0 := B0.out.below bX B0.out.lt
             have kB3 := B3.out.below bX B3.out.lt
             have p0 : w16.cell? ⟨w2.heap.size, 0, none⟩ = some (.int .i64 (K : Int)) := kB0.cell 0
             have r0 : w16.cell? ⟨w14.heap.size, 0, none⟩ = some (.int .i64 (K : Int)) := kB3.cell 0
             have s0 : w16.cell? ⟨va.heap.size, 0, none⟩ = some (.int .i64 (K : Int)) := kg.cell 0
             have p1 : w16.cell? ⟨w2.heap.size, 1, none⟩ = some (.int .i64 (n : Int)) := kB0.cell 1
             have r1 : w16.cell? ⟨w14.heap.size, 1, none⟩ = some (.int .i64 (n : Int)) := kB3.cell 1
             have s1 : w16.cell? ⟨va.heap.size, 1, none⟩ = some (.int .i64 (n : Int)) := kg.cell 1
             have lc : w16.cell? ⟨b, o + 1, none⟩ = some (.string dd) := (bX.cell (p := ⟨b, o + 1, none⟩) HLT.out).trans hc2
             have H16 := Lib.hid (h15.trans (bX.mono h15.size))
             have hq := eqFr (K : Int) (n : Int) (K : Int) (n : Int)
             rw [beq_self_eq_true, beq_self_eq_true, Bool.and_true] at hq
             have d8 : decide ((8 : Int) < (dd.size : Int)) = false := D8.out
             clear kg bX kB0 kB3
             go_wp2_with fail
             go_ret
             exact ⟨rfl, H16.out⟩)
      · have e1 : (((K : Nat) : Int) != 2) = true := by rw [bne_iff_ne]; omega
        go_wp2_with fail
        go_ret
        exact ⟨rfl, h12⟩
    · obtain rfl : z = (q : Int) := by have := hz.out; omega
      have hq : q < AL.length := by omega
      obtain ⟨b, o', rfl, hbl, c0, c1⟩ := HA4.out.fld q hq
      have c0 := (hb.out.cell (p := ⟨b, o' + q * 2, none⟩) hbl).trans c0
      have c1 := (hb.out.cell (p := ⟨b, o' + q * 2 + 1, none⟩) hbl).trans c1
      obtain ⟨f, hf⟩ : ∃ f, AL[q] = f := ⟨_, rfl⟩
      rw [hf] at c0 c1
      have hRq : AL.length - (q + 1) < RV.length := by rw [HRV.out.2]; omega
      have htk : RV.take (AL.length - q) = RV.take (AL.length - (q + 1)) ++ [f] := by
        have e : AL.length - q = AL.length - (q + 1) + 1 := by omega
        rw [e, List.take_succ_eq_append_getElem hRq]
        congr 2
        have : RV[AL.length - (q + 1)] = AL.reverse[AL.length - (q + 1)]'(by rw [List.length_reverse]; omega) := by congr 1; exact HRV.out.1.symm
        rw [this, List.getElem_reverse, ← hf]
        congr 1
        omega
      obtain ⟨v', w5', hrun, hown, hb5, _⟩ := app_fld HQ.out hb.out.size (by rw [List.length_take]; omega) f
      have HQ' : Hid (w5'.ownsRow w8.heap.size 36 2 v' (RV.take (AL.length - q)).length (fldsC (RV.take (AL.length - q)))) := by
        show w5'.ownsRow _ _ _ _ _ _
        rw [htk]; exact hown
      have HB5 : Hid (Below w8.heap.size w8 w5') := hide (hb.out.trans hb5)
      have HRUN := Lib.hid hrun
      have i0 : (0 : Int) ≤ (q : Int) := by omega
      have i1 : (q : Int) < (AL.length : Int) := by omega
      have i2 : ¬ (q : Int) < 0 := by omega
      have hz : (q : Int) - 1 = ((q : Nat) : Int) - 1 := rfl
      clear hrun hown hb5 hf htk hRq hz HQ hb
      go_wp2_with (at_builtin; refine wpList_append_run HRUN.out rfl _ _ rfl rfl rfl rfl ?_)
      go_roundw
      case rel => exact ⟨_, q, rfl, by omega, rfl, HQ', HB5⟩
      case measure => simp [intOf]
end Go.Proofs.YtpdohlnobbimaaaDoor
