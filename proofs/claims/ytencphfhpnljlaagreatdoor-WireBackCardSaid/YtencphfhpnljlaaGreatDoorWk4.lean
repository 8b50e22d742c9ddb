/-
  WireBack, the law. Printed by genwk4.py.
-/
import Derived.Test.YtencphfhpnljlaaGreatDoorWkA
import Derived.Test.YtencphfhpnljlaaGreatDoorLw2
import Derived.Test.YtencphfhpnljlaaGreatDoorWiTabs
import Derived.Deep.RegionHeld3
namespace Go.Proofs.YtencphfhpnljlaaGreatDoor
open Go.RowKit

set_option maxRecDepth 100000 in
set_option maxHeartbeats 32000000 in
theorem WireBack_true (A : Option Addr) (n c : Nat) (zs : List Int) (w : World) (hr : Reads w w.heap.size 1 A n (zs.map (Value.int .i64))) (hn : n ≤ 9223372036854775807) (hz : ∀ z ∈ zs, -9223372036854775808 ≤ z ∧ z ≤ 9223372036854775807) (hT : Tab11 w) :
    Calls Tryz.prog 3 #[.slice A n c] w fun e w' => e = .returned (.bool true) ∧ Below w.heap.size w w' := by
  obtain rfl : n = zs.length := by have := hr.1; simp at this; exact this.symm
  obtain ⟨ks, hks⟩ : ∃ ks, (zs.take 6).map madeK = ks := ⟨_, rfl⟩
  obtain ⟨N, hN⟩ : ∃ N, ks.length = N := ⟨_, rfl⟩
  have hN6 : N ≤ 6 ∧ N ≤ zs.length ∧ (N < 6 → N = zs.length) := by
    rw [← hN, ← hks, List.length_map, List.length_take]; omega
  have hat : ∀ k (h1 : k < N) (h2 : k < zs.length) (h3 : k < ks.length), ks[k] = madeK zs[k] := by
    intro k h1 h2 h3
    subst hks
    simp
  have HR := Lib.hid hr
  have HZ := Lib.hid hz
  have HK := Lib.hid (And.intro hat hN)
  have TB := Lib.hid (fun X (h : Below w.heap.size w X) => And.intro (hT.t.below h) (hT.w.below h))
  clear hr hz hat hT hks
  go_enter Tryz.func3, Tryz.ntmps3
  go_upto_block 0 with (fail)
  go_cut [3, 4] (fun s m wx => s = .string (bs (ks.flatMap textW)) ∧ m = .int .i64 N ∧ Hid (Below w.heap.size w wx))
  case first =>
   go_wp2_with fail
   go_loopw [3, 4, 5] (fun s m i wr => ∃ k : Nat, i = .int .i64 k ∧ k ≤ N ∧ s = .string (bs ((ks.take k).flatMap textW)) ∧ m = .int .i64 k ∧ Hid (Below w.heap.size w wr)) (fun _ _ i _ => N - (intOf i).toNat)
   case atStart => exact ⟨0, rfl, by omega, rfl, rfl, hide (Below.refl _ _)⟩
   case round =>
     obtain ⟨k, rfl, hk, rfl, rfl, hB⟩ := hrel
     rename World => wr
     by_cases hlt : k < N
     · have hkz : k < zs.length := by omega
       have hkk : k < ks.length := by rw [HK.out.2]; exact hlt
       obtain ⟨b, o, rfl, hb, hc⟩ := (HR.out.below hB.out).lit (by omega)
       have q0 := hc k (.int .i64 zs[k]) (by rw [List.getElem?_map, List.getElem?_eq_getElem hkz]; rfl)
       have hzz := HZ.out zs[k] (List.getElem_mem hkz)
       have hkm := HK.out.1 k hlt hkz hkk
       have hsu := take_flat ks k hkk
       have htl := texts_len (ks.take k)
       have hln : (ks.take k).length = k := by rw [List.length_take]; omega
       rw [hkm] at hsu
       generalize zs[k] = z at q0 hzz hkm hsu
       have cM := pMade z wr hzz.1 hzz.2
       obtain ⟨kk, hkkk⟩ : ∃ kk, madeK z = kk := ⟨_, rfl⟩
       rw [hkkk] at cM hsu
       obtain ⟨s1, s2, s3, s4, s5, s6⟩ := small_one kk
       have tx := text_one kk
       unfold MadePost11 at cM
       obtain ⟨M, hM⟩ : ∃ M, madeM kk = M := ⟨_, rfl⟩
       obtain ⟨T, hT⟩ : ∃ T, madeT kk = T := ⟨_, rfl⟩
       obtain ⟨L, hL⟩ : ∃ L, madeL kk = L := ⟨_, rfl⟩
       obtain ⟨Bo, hBo⟩ : ∃ Bo, madeB kk = Bo := ⟨_, rfl⟩
       obtain ⟨tt, htt⟩ : ∃ tt, textW kk = tt := ⟨_, rfl⟩
       rw [hM] at s1 tx cM
       rw [hT] at s2 tx cM
       rw [hBo] at s3 tx cM
       rw [hL] at s4 s5 tx cM
       rw [htt] at s6 tx hsu
       have CM := Lib.hid cM
       have CT := Lib.hid (fun (B : Option Addr) (d : Nat) (X : World) (hX : Reads X X.heap.size 2 B L.length (fldsC L)) (htab : Tabs X) => pTextW M T Bo B L.length d L X (by omega) (by omega) (by omega) hX (by omega) (fun f hf => by have := s5 f hf; omega) htab)
       rw [tx] at CT
       simp only at CT
       have zS := bs_size ((ks.take k).flatMap textW)
       have zT := bs_size tt
       have hcat := bs_cat3 ((ks.take k).flatMap textW) tt
       rw [← hsu] at hcat
       obtain ⟨S, hS⟩ : ∃ S, bs ((ks.take k).flatMap textW) = S := ⟨_, rfl⟩
       obtain ⟨U, hU⟩ : ∃ U, bs tt = U := ⟨_, rfl⟩
       rw [hS] at zS hcat
       rw [hU] at zT hcat CT
       rw [hS]
       have HC := Lib.hid hcat
       have v1 : S.size ≤ 10000 := by omega
       have v2 : U.size ≤ 1000 := by omega
       have i0 : (0 : Int) ≤ (k : Int) := by omega
       have i1 : (k : Int) < (zs.length : Int) := by omega
       have i2 : (k : Int) < 6 := by omega
       have e1 : (((0 : Nat) : Int) != 0) = false := rfl
       clear cM hkkk s1 s2 s3 s4 s5 s6 tx hM hT hL hBo htt zS zT hcat hS hU hsu htl hln hc hkm hkk hkz hzz
       go_wp2_with fail
       (with_reducible refine (CM.out).mono ?_); rintro e w1 ⟨B1, d1, rfl, hr1, g1⟩
       have b1 := (Below.refl w1.heap.size w1).alloc (Nat.le_refl _) (.cells #[.string (bs M), .string (bs T)] 24)
       have G1 := Lib.hid ((hB.out.trans (g1.mono hB.out.size)).trans (b1.mono (hB.out.trans (g1.mono hB.out.size)).size))
       have CT1 := Lib.hid (CT.out B1 d1 _ ((hr1.below b1).more b1.size) (TB.out _ G1.out).1)
       clear hr1 g1 b1
       go_wp2_with fail
       (with_reducible refine (CT1.out).mono ?_); rintro e w2 ⟨rfl, g2⟩
       have G2 := Lib.hid (G1.out.trans (g2.mono G1.out.size))
       clear g2
       go_wp2_with fail
       go_roundw
       case rel => exact ⟨k + 1, by go_num, by omega, by rw [HC.out], by go_num, G2⟩
       case measure => simp [intOf]; omega
     · obtain rfl : k = N := by omega
       have hfl : ks.take k = ks := by rw [← HK.out.2, List.take_length]
       rw [hfl]
       have hcases : (decide ((k : Int) < (zs.length : Int)) = false ∧ ¬ k < zs.length ∧ True) ∨ (decide ((k : Int) < (zs.length : Int)) = true ∧ k < zs.length ∧ ¬ k < 6) := by
         by_cases hz : k < zs.length
         · refine .inr ⟨by rw [decide_eq_true_iff]; omega, hz, by omega⟩
         · exact .inl ⟨by rw [decide_eq_false_iff_not]; omega, hz, trivial⟩
       clear hfl hlt hk hN6
       rcases hcases with ⟨hd, hd1, hd2⟩ | ⟨hd, hd1, hd2⟩
       all_goals
         go_wp2_with fail
         go_meet
         exact ⟨rfl, rfl, hB⟩
  case rest =>
    obtain ⟨rfl, rfl, hB⟩ := hcut
    rename World => wr
    have HNN := Lib.hid hN6
    have hback := back_many ks
    have hlen := texts_len ks
    have hN := HK.out.2
    rw [hN] at hlen
    have hel := events_len ks
    rw [hN] at hel
    obtain ⟨S, hS⟩ : ∃ S, ks.flatMap textW = S := ⟨_, rfl⟩
    rw [hS] at hback hlen ⊢
    have cF := fun X (hX : Below w.heap.size w X) => pFeedNew S X (by omega) (TB.out X hX).2
    rw [hback] at cF
    unfold FeedPost newV at cF
    simp only at cF
    have CF := Lib.hid cF
    have CN := Lib.hid (pNewW wr)
    have zS := bs_size S
    have w3k : IntKind.i64.wrap (3 * (N : Int)) = 3 * (N : Int) := IntWalk.i64_in _ (by omega)
    clear hback cF hS hN6 hlen
    go_wp2_with fail
    (with_reducible refine (CN.out).mono ?_); rintro e w1 ⟨rfl, g1⟩
    have G1 := Lib.hid (hB.out.trans (g1.mono hB.out.size))
    have CF1 := Lib.hid (CF.out w1 G1.out)
    clear g1
    go_wp2_with fail
    (with_reducible refine (CF1.out).mono ?_); rintro e w2 ⟨A2, c2, O, oc, X, rfl, hX, hRX, hHX, hown, g2⟩
    have hy : wireV newW A2 c2 = #[.int .i64 1, .string ⟨#[]⟩, .string ⟨#[]⟩, .string ⟨#[]⟩, .slice A2 0 c2, .string ⟨#[]⟩, .int .i64 0, .int .i64 0, .int .i64 0, .int .i64 0, .int .i64 0, .string ⟨#[]⟩, .string ⟨#[]⟩, .int .i64 0, .int .i64 0] := rfl
    rw [hy]
    obtain ⟨Z, hZ⟩ : ∃ Z, w2.alloc (.cells #[.int .i64 1, .string ⟨#[]⟩, .string ⟨#[]⟩, .string ⟨#[]⟩, .slice A2 0 c2, .string ⟨#[]⟩, .int .i64 0, .int .i64 0, .int .i64 0, .int .i64 0, .int .i64 0, .string ⟨#[]⟩, .string ⟨#[]⟩, .int .i64 0, .int .i64 0] 34) = Z := ⟨_, rfl⟩
    have bZ : Below w2.heap.size w2 Z := by rw [← hZ]; exact (Below.refl _ _).alloc (Nat.le_refl _) _
    have kZ : Blk Z w2.heap.size 34 #[.int .i64 1, .string ⟨#[]⟩, .string ⟨#[]⟩, .string ⟨#[]⟩, .slice A2 0 c2, .string ⟨#[]⟩, .int .i64 0, .int .i64 0, .int .i64 0, .int .i64 0, .int .i64 0, .string ⟨#[]⟩, .string ⟨#[]⟩, .int .i64 0, .int .i64 0] := by rw [← hZ]; exact Blk.new w2 34 #[.int .i64 1, .string ⟨#[]⟩, .string ⟨#[]⟩, .string ⟨#[]⟩, .slice A2 0 c2, .string ⟨#[]⟩, .int .i64 0, .int .i64 0, .int .i64 0, .int .i64 0, .int .i64 0, .string ⟨#[]⟩, .string ⟨#[]⟩, .int .i64 0, .int .i64 0]
    have GZ := Lib.hid ((G1.out.trans (g2.mono G1.out.size)).trans (bZ.mono (G1.out.trans (g2.mono G1.out.size)).size))
    have RX := Lib.hid ((hRX.below bZ).more bZ.size)
    have HX := Lib.hid (hHX.below bZ)
    have EX := Lib.hid hX
    have hm : X.length = 3 * N := by rw [← hel, ← hX, List.length_map]
    have e5 : ((X.length : Int) != 3 * (N : Int)) = false := by rw [hm]; simp
    have KZ := Lib.hid kZ
    have SS := Lib.hid (show ∀ V, Below Z.heap.size Z V → V.cell? ⟨w2.heap.size, 0, none⟩ = some (.int .i64 1) ∧ V.cell? ⟨w2.heap.size, 1, none⟩ = some (.string ⟨#[]⟩) ∧ V.cell? ⟨w2.heap.size, 2, none⟩ = some (.string ⟨#[]⟩) ∧ V.cell? ⟨w2.heap.size, 3, none⟩ = some (.string ⟨#[]⟩) ∧ V.cell? ⟨w2.heap.size, 4, none⟩ = some (.slice A2 0 c2) ∧ V.cell? ⟨w2.heap.size, 5, none⟩ = some (.string ⟨#[]⟩) ∧ V.cell? ⟨w2.heap.size, 6, none⟩ = some (.int .i64 0) ∧ V.cell? ⟨w2.heap.size, 7, none⟩ = some (.int .i64 0) ∧ V.cell? ⟨w2.heap.size, 8, none⟩ = some (.int .i64 0) ∧ V.cell? ⟨w2.heap.size, 9, none⟩ = some (.int .i64 0) ∧ V.cell? ⟨w2.heap.size, 10, none⟩ = some (.int .i64 0) ∧ V.cell? ⟨w2.heap.size, 11, none⟩ = some (.string ⟨#[]⟩) ∧ V.cell? ⟨w2.heap.size, 12, none⟩ = some (.string ⟨#[]⟩) ∧ V.cell? ⟨w2.heap.size, 13, none⟩ = some (.int .i64 0) ∧ V.cell? ⟨w2.heap.size, 14, none⟩ = some (.int .i64 0) from fun V hV => by
      have kV := kZ.below hV kZ.lt
      exact ⟨kV.cell 0, kV.cell 1, kV.cell 2, kV.cell 3, kV.cell 4, kV.cell 5, kV.cell 6, kV.cell 7, kV.cell 8, kV.cell 9, kV.cell 10, kV.cell 11, kV.cell 12, kV.cell 13, kV.cell 14⟩)
    have CN2 := Lib.hid pNewW
    have CS2 := Lib.hid (pSameNew A2 c2)
    rw [hy] at CS2
    unfold newV at CS2
    have BD := Lib.hid ((Below.refl Z.heap.size Z).drew)
    have HZZ := Lib.hid hZ
    clear hy bZ kZ hRX hHX hown g2 hX hm CN CF CF1 hZ
    go_wp2_with fail
    rw [HZZ.out]
    obtain ⟨t0, t1, t2, t3, t4, t5, t6, t7, t8, t9, t10, t11, t12, t13, t14⟩ := SS.out Z (Below.refl _ _)
    go_region_held3 (fun V => V.cell? ⟨w2.heap.size, 0, none⟩ = some (.int .i64 1) ∧ V.cell? ⟨w2.heap.size, 1, none⟩ = some (.string ⟨#[]⟩) ∧ V.cell? ⟨w2.heap.size, 2, none⟩ = some (.string ⟨#[]⟩) ∧ V.cell? ⟨w2.heap.size, 3, none⟩ = some (.string ⟨#[]⟩) ∧ V.cell? ⟨w2.heap.size, 4, none⟩ = some (.slice A2 0 c2) ∧ V.cell? ⟨w2.heap.size, 5, none⟩ = some (.string ⟨#[]⟩) ∧ V.cell? ⟨w2.heap.size, 6, none⟩ = some (.int .i64 0) ∧ V.cell? ⟨w2.heap.size, 7, none⟩ = some (.int .i64 0) ∧ V.cell? ⟨w2.heap.size, 8, none⟩ = some (.int .i64 0) ∧ V.cell? ⟨w2.heap.size, 9, none⟩ = some (.int .i64 0) ∧ V.cell? ⟨w2.heap.size, 10, none⟩ = some (.int .i64 0) ∧ V.cell? ⟨w2.heap.size, 11, none⟩ = some (.string ⟨#[]⟩) ∧ V.cell? ⟨w2.heap.size, 12, none⟩ = some (.string ⟨#[]⟩) ∧ V.cell? ⟨w2.heap.size, 13, none⟩ = some (.int .i64 0) ∧ V.cell? ⟨w2.heap.size, 14, none⟩ = some (.int .i64 0)) (first | exact SS.out _ hv2 | exact SS.out _ hv4 | exact SS.out _ BD.out) (first
      | (go_at_call 10; (with_reducible refine (CN2.out _).mono ?_); rintro r va ⟨rfl, hva⟩; have hv2 := BD.out.trans (hva.mono BD.out.size))
      | (go_at_call 11; (with_reducible refine (CS2.out _).mono ?_); rintro r vb ⟨rfl, hvb⟩; have hv4 := hv2.trans (hvb.mono hv2.size)))
    have HV := Lib.hid hv4
    have G3 := Lib.hid (GZ.out.trans (hv4.mono GZ.out.size))
    clear hva hvb hv2 hv4 BD CN2 CS2 SS t0 t1 t2 t3 t4 t5 t6 t7 t8 t9 t10 t11 t12 t13 t14 HZZ KZ w3k e5 zS hB G1
    have RX := Lib.hid ((RX.out.below HV.out).more HV.out.size)
    have HX := Lib.hid (HX.out.below HV.out)
    clear HV GZ
    go_wp2_with fail
    go_loopw [14] (fun i wr => ∃ j : Nat, i = .int .i64 j ∧ j ≤ N ∧ Hid (Below vb.heap.size vb wr)) (fun i _ => N - (intOf i).toNat)
    case atStart => exact ⟨0, rfl, by omega, hide (Below.refl _ _)⟩
    case round =>
      obtain ⟨j, rfl, hj, hB⟩ := hrel
      rename World => wr
      have GB := Lib.hid (G3.out.trans (hB.out.mono G3.out.size))
      have RX := Lib.hid ((RX.out.below hB.out).more hB.out.size)
      have HX := Lib.hid (HX.out.below hB.out)
      by_cases hlt : j < N
      · have hjz : j < zs.length := by have := HNN.out.2.1; omega
        have hkk : j < ks.length := by rw [hN]; exact hlt
        obtain ⟨b, o, rfl, hb, hc⟩ := (HR.out.below GB.out).lit (by omega)
        have q0 := hc j (.int .i64 zs[j]) (by rw [List.getElem?_map, List.getElem?_eq_getElem hjz]; rfl)
        have hzz := HZ.out zs[j] (List.getElem_mem hjz)
        have hkm := HK.out.1 j hlt hjz hkk
        have hev := events_at ks j
        have hml : X.length = 3 * N := by rw [← List.length_map (f := (·.1)), EX.out, hel]
        have hXe : ∀ q, q < 3 → ∀ (hp : 3 * j + q < X.length) e, (eventsW ks[j])[q]? = some e → X[3 * j + q].1 = e := by
          intro q hq hp e he
          have h1 : (X.map (·.1))[3 * j + q]? = some e := by rw [EX.out, hev q hkk hq, he]
          rw [List.getElem?_map, List.getElem?_eq_getElem hp] at h1
          simpa using h1
        rw [hkm] at hXe
        generalize zs[j] = z at q0 hzz hkm hXe
        have cM := pMade z wr hzz.1 hzz.2
        obtain ⟨kk, hkkk⟩ : ∃ kk, madeK z = kk := ⟨_, rfl⟩
        rw [hkkk] at cM hXe
        have s4 := (small_one kk).2.2.2.1
        unfold MadePost11 at cM
        unfold eventsW at hXe
        obtain ⟨M, hM⟩ : ∃ M, madeM kk = M := ⟨_, rfl⟩
        obtain ⟨T, hT⟩ : ∃ T, madeT kk = T := ⟨_, rfl⟩
        obtain ⟨L, hL⟩ : ∃ L, madeL kk = L := ⟨_, rfl⟩
        obtain ⟨Bo, hBo⟩ : ∃ Bo, madeB kk = Bo := ⟨_, rfl⟩
        rw [hM, hT, hBo, hL] at cM hXe
        rw [hL] at s4
        have CM := Lib.hid cM
        have XE := Lib.hid hXe
        have HML := Lib.hid hml
        have i0 : (0 : Int) ≤ (j : Int) := by omega
        have i1 : (j : Int) < (zs.length : Int) := by omega
        clear cM hkkk hM hT hL hBo hc hkm hkk hjz hzz hev hXe hml
        go_wp2_with fail
        (with_reducible refine (CM.out).mono ?_); rintro e w3 ⟨B1, d1, rfl, hr1, g1⟩
        obtain ⟨Y, hY⟩ : ∃ Y, w3.alloc (.cells #[.string (bs M), .string (bs T)] 24) = Y := ⟨_, rfl⟩
        have bY : Below w3.heap.size w3 Y := by rw [← hY]; exact (Below.refl _ _).alloc (Nat.le_refl _) _
        have kY : Blk Y w3.heap.size 24 #[.string (bs M), .string (bs T)] := by rw [← hY]; exact Blk.new w3 24 #[.string (bs M), .string (bs T)]
        have KY := Lib.hid kY
        have RL := Lib.hid ((hr1.below bY).more bY.size)
        have gY := g1.trans (bY.mono g1.size)
        have GW := Lib.hid (hB.out.trans (gY.mono hB.out.size))
        have RX := Lib.hid ((RX.out.below gY).more gY.size)
        have HX := Lib.hid (HX.out.below gY)
        have HYY := Lib.hid hY
        have ql := neReqL (bs M) (bs T)
        have e3 : ((bs Bo).toList == (bs Bo).toList) = true := by simp
        have e4 : ((bs Bo).toList != (bs Bo).toList) = false := by simp
        clear hr1 g1 bY kY gY hY
        go_upto_region 18 with (fail)
        rw [HYY.out]
        go_wp2_with fail
        go_loopw [18] (fun i wr => ∃ q : Nat, i = .int .i64 q ∧ q ≤ 3 ∧ Hid (Below Y.heap.size Y wr)) (fun i _ => 3 - (intOf i).toNat)
        case atStart => exact ⟨0, rfl, by omega, hide (Below.refl _ _)⟩
        case round =>
          obtain ⟨q, rfl, hq, hB3⟩ := hrel
          rename World => wq
          have KQ := Lib.hid (KY.out.below hB3.out KY.out.lt)
          have l0 : ∀ o, (wq.alloc o).cell? ⟨w3.heap.size, 0, none⟩ = some (.string (bs M)) := fun o => (KQ.out.alloc o).cell 0
          have l1 : ∀ o, (wq.alloc o).cell? ⟨w3.heap.size, 1, none⟩ = some (.string (bs T)) := fun o => (KQ.out.alloc o).cell 1
          have RX := Lib.hid ((RX.out.below hB3.out).more hB3.out.size)
          have HX := Lib.hid (HX.out.below hB3.out)
          have RL := Lib.hid ((RL.out.below hB3.out).more hB3.out.size)
          have w3j : IntKind.i64.wrap (3 * (j : Int)) = 3 * (j : Int) := IntWalk.i64_in _ (by have := HNN.out.1; omega)
          have jk : (j : Int) < (N : Int) := by omega
          have jk6 : (N : Int) ≤ 6 := by have := HNN.out.1; omega
          obtain rfl | rfl | rfl | rfl : q = 0 ∨ q = 1 ∨ q = 2 ∨ q = 3 := by omega
          · have hp : 3 * j + 0 < X.length := by have := HML.out; omega
            obtain ⟨b2, o2, rfl, hb2, r0, r1, r2, r3, r4, r5⟩ := RX.out.ev (3 * j + 0) hp
            have hxe := XE.out 0 (by omega) hp _ rfl
            have n0 : (0 : Int) ≤ 3 * (j : Int) := by omega
            have n1 : 3 * (j : Int) < (X.length : Int) := by omega
            generalize X[3 * j + 0] = x at *
            obtain ⟨e0, A3, c3⟩ := x
            simp only at r0 r1 r2 r3 r4 r5 hxe
            subst hxe
            simp only at r0 r1 r2 r3 r4 r5
            obtain ⟨pp, hpp⟩ : ∃ pp, 3 * j + 0 = pp := ⟨_, rfl⟩
            rw [hpp] at r0 r1 r2 r3 r4 r5
            have n2 : (3 * (j : Int)).toNat = pp := by omega
            have GQ := Lib.hid (fun V (h : Below wq.heap.size wq V) => hB3.out.trans (h.mono hB3.out.size))
            clear hpp hp hb2
            go_wp2_with fail
            go_roundw
            case rel => exact ⟨1, by go_num, by omega, hide (GQ.out _ ((Below.refl _ _).alloc (Nat.le_refl _) _))⟩
            case measure => simp [intOf]
          · have hp : 3 * j + 1 < X.length := by have := HML.out; omega
            obtain ⟨b2, o2, rfl, hb2, r0, r1, r2, r3, r4, r5⟩ := RX.out.ev (3 * j + 1) hp
            have hF := HX.out.reads (3 * j + 1) hp
            have hxe := XE.out 1 (by omega) hp _ rfl
            have n0 : (0 : Int) ≤ 3 * (j : Int) + 1 := by omega
            have n1 : 3 * (j : Int) + 1 < (X.length : Int) := by omega
            generalize X[3 * j + 1] = x at *
            obtain ⟨e0, A3, c3⟩ := x
            simp only at r0 r1 r2 r3 r4 r5 hxe hF
            subst hxe
            simp only at r0 r1 r2 r3 r4 r5 hF
            obtain ⟨pp, hpp⟩ : ∃ pp, 3 * j + 1 = pp := ⟨_, rfl⟩
            rw [hpp] at r0 r1 r2 r3 r4 r5
            have n2 : (3 * (j : Int) + 1).toNat = pp := by omega
            have wq1 : IntKind.i64.wrap (3 * (j : Int) + 1) = 3 * (j : Int) + 1 := IntWalk.i64_in _ (by have := HNN.out.1; omega)
            have GQ := Lib.hid (fun V (h : Below wq.heap.size wq V) => hB3.out.trans (h.mono hB3.out.size))
            have CS := Lib.hid (show ∀ V, Below wq.heap.size wq V → Calls Tryz.prog 12 #[.slice A3 L.length c3, .slice B1 L.length d1] V fun e w' => e = .returned (.bool true) ∧ Below wq.heap.size wq w' ∧ Below V.heap.size V w' from fun V hV => by
              have cS := SameFields_any A3 B1 L.length L.length c3 d1 L L V ((hF.below hV).more hV.size) ((RL.out.below hV).more hV.size) (by omega) (by omega)
              rw [decide_eq_true rfl] at cS
              refine cS.mono ?_
              rintro e w' ⟨rfl, m, rfl⟩
              exact ⟨rfl, below_drewN hV m, below_drewN (Below.refl _ _) m⟩)
            clear hF
            clear hpp hp hb2
            go_wp2_with fail
            (with_reducible refine (CS.out _ ((Below.refl _ _).alloc (Nat.le_refl _) _)).mono ?_); rintro e w9 ⟨rfl, g9, h9⟩
            go_wp2_with fail
            go_roundw
            case rel => exact ⟨2, by go_num, by omega, hide (GQ.out _ g9)⟩
            case measure => simp [intOf]
          · have hp : 3 * j + 2 < X.length := by have := HML.out; omega
            obtain ⟨b2, o2, rfl, hb2, r0, r1, r2, r3, r4, r5⟩ := RX.out.ev (3 * j + 2) hp
            have hF := HX.out.reads (3 * j + 2) hp
            have hxe := XE.out 2 (by omega) hp _ rfl
            have n0 : (0 : Int) ≤ 3 * (j : Int) + 2 := by omega
            have n1 : 3 * (j : Int) + 2 < (X.length : Int) := by omega
            generalize X[3 * j + 2] = x at *
            obtain ⟨e0, A3, c3⟩ := x
            simp only at r0 r1 r2 r3 r4 r5 hxe hF
            subst hxe
            simp only at r0 r1 r2 r3 r4 r5 hF
            obtain ⟨pp, hpp⟩ : ∃ pp, 3 * j + 2 = pp := ⟨_, rfl⟩
            rw [hpp] at r0 r1 r2 r3 r4 r5
            have n2 : (3 * (j : Int) + 2).toNat = pp := by omega
            have wq1 : IntKind.i64.wrap (3 * (j : Int) + 2) = 3 * (j : Int) + 2 := IntWalk.i64_in _ (by have := HNN.out.1; omega)
            have GQ := Lib.hid (fun V (h : Below wq.heap.size wq V) => hB3.out.trans (h.mono hB3.out.size))
            have CS := Lib.hid (show ∀ V, Below wq.heap.size wq V → Calls Tryz.prog 12 #[.slice A3 L.length c3, .slice B1 L.length d1] V fun e w' => e = .returned (.bool true) ∧ Below wq.heap.size wq w' ∧ Below V.heap.size V w' from fun V hV => by
              have cS := SameFields_any A3 B1 L.length L.length c3 d1 L L V ((hF.below hV).more hV.size) ((RL.out.below hV).more hV.size) (by omega) (by omega)
              rw [decide_eq_true rfl] at cS
              refine cS.mono ?_
              rintro e w' ⟨rfl, m, rfl⟩
              exact ⟨rfl, below_drewN hV m, below_drewN (Below.refl _ _) m⟩)
            clear hF
            clear hpp hp hb2
            go_wp2_with fail
            (with_reducible refine (CS.out _ ((Below.refl _ _).alloc (Nat.le_refl _) _)).mono ?_); rintro e w9 ⟨rfl, g9, h9⟩
            have d4 : w9.cell? ⟨wq.heap.size, 4, none⟩ = some (.string (bs Bo)) := (h9.cell (p := ⟨wq.heap.size, 4, none⟩) (by simp)).trans ((Blk.new wq _ _).cell 4)
            clear h9
            go_wp2_with fail
            go_roundw
            case rel => exact ⟨3, by go_num, by omega, hide (GQ.out _ g9)⟩
            case measure => simp [intOf]
          · have G5 := Lib.hid (GW.out.trans (hB3.out.mono GW.out.size))
            go_wp2_with fail
            go_roundw
            case rel => exact ⟨j + 1, by go_num, by omega, G5⟩
            case measure => simp [intOf]; omega
      · obtain rfl : j = N := by omega
        have hd : decide ((j : Int) < (j : Int)) = false := by simp
        have cT := pTellW O X.length oc X wr RX.out (by rw [← List.length_map (f := (·.1)), EX.out, hel]; have := HNN.out.1; omega) (fun x hx => events_kind ks x.1 (by rw [← EX.out]; exact List.mem_map_of_mem hx))
        rw [gotN_map X _ EX.out, events_got, hN] at cT
        have CT := Lib.hid cT
        have e1 : ((j : Int) == (j : Int)) = true := by simp
        clear cT
        go_wp2_with fail
        (with_reducible refine (CT.out).mono ?_); rintro e w3 ⟨rfl, g3⟩
        have G4 := Lib.hid (GB.out.trans (g3.mono GB.out.size))
        have AW := Lib.hid (awake11 w3 (TB.out _ G4.out).2)
        clear g3
        go_wp2_with fail
        (with_reducible refine (AW.out).mono ?_); rintro e w4 ⟨rfl, g4⟩
        go_wp2_with fail
        go_ret
        exact ⟨rfl, G4.out.trans (g4.mono G4.out.size)⟩
end Go.Proofs.YtencphfhpnljlaaGreatDoor
