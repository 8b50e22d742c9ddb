/-
  Put of both sides.
-/
import Derived.Test.YtepemdmjbfoiaaaDoorFd10
namespace Go.Proofs.YtepemdmjbfoiaaaDoor
open Go.RowKit

def putE (l : List Fld) (x : Fld) : Nat := if moreE l x = 0 then (if namedL x.1 0 l = [] then addE l x else 0) else moreE l x
def putR (l : List Fld) (x : Fld) : List Fld := if moreE l x = 0 then (if namedL x.1 0 l = [] then addL l x else putL x false l) else []
theorem values_len (nm : List UInt8) (l : List Fld) : (valuesL nm l).length = (namedL nm 0 l).length := by
  rw [← values_named, List.length_map]
theorem moreE_zero {l : List Fld} {x : Fld} (h : moreE l x = 0) : (checkL l).1 = 0 ∧ oneL x = 0 := by
  unfold moreE at h
  split at h
  · rename_i h1; exact absurd h h1
  · rename_i h1; exact ⟨by omega, h⟩

set_option maxRecDepth 100000 in
set_option maxHeartbeats 8000000 in
theorem rPut (A : Option Addr) (n c : Nat) (l : List Fld) (x : Fld) (w : World) (hr : Reads w w.heap.size 2 A n (fldsC l)) (hn : n ≤ 100000) (hl : fldsOk l) (hx1 : x.1.length ≤ 100000) (hx2 : x.2.length ≤ 100000) :
    Calls Tryd.prog 61 #[.slice A n c, .agg #[.string (bs x.1), .string (bs x.2)]] w (FldsPost (putR l x) (putE l x) w) := by
  obtain rfl := hr.flen
  have cM := fun w hr => rmore A l.length c l x w hr hn hl hx1 hx2
  have cV := fun w hr => rall A l.length c l (bs x.1) w hr hn hl (by rw [bs_size]; exact hx1)
  rw [bs_list] at cV
  have cD := fun w hr => rAdd A l.length c l x w hr hn hl hx1 hx2
  have hvl := values_len x.1 l
  obtain ⟨M, hM⟩ : ∃ M, moreE l x = M := ⟨_, rfl⟩
  obtain ⟨V, hV⟩ : ∃ V, valuesL x.1 l = V := ⟨_, rfl⟩
  rw [hM] at cM
  rw [hV] at cV hvl
  unfold TextsPost at cV
  have CM := Lib.hid cM
  have CV := Lib.hid cV
  have CD := Lib.hid cD
  obtain ⟨W1, hW1⟩ : ∃ W1, w.alloc (.cells #[.string (bs x.1), .string (bs x.2)] 52) = W1 := ⟨_, rfl⟩
  have hB1 : Blk W1 w.heap.size 52 #[.string (bs x.1), .string (bs x.2)] := by rw [← hW1]; exact Blk.new _ _ _
  have hb1 : Below w.heap.size w W1 := by rw [← hW1]; exact (Below.refl _ _).alloc (Nat.le_refl _) _
  have HR := Lib.hid hr
  have HL := Lib.hid hl
  have HB := Lib.hid hB1
  have p0 : W1.cell? ⟨w.heap.size, 0, none⟩ = some (.string (bs x.1)) := hB1.cell 0
  have p1 : W1.cell? ⟨w.heap.size, 1, none⟩ = some (.string (bs x.2)) := hB1.cell 1
  clear cM cV cD hr hl hB1 hV
  unfold putR putE
  rw [hM]
  by_cases hm : M = 0
  · subst hm
    rw [if_pos rfl, if_pos rfl]
    by_cases hz : namedL x.1 0 l = []
    · rw [if_pos hz, if_pos hz]
      rw [hz] at hvl
      obtain rfl := List.eq_nil_of_length_eq_zero hvl
      clear hvl hz hM
      unfold FldsPost at CD ⊢
      obtain ⟨AL, hAL⟩ : ∃ AL, addL l x = AL := ⟨_, rfl⟩
      obtain ⟨AE, hAE⟩ : ∃ AE, addE l x = AE := ⟨_, rfl⟩
      rw [hAL, hAE] at CD ⊢
      clear hAL hAE
      go_enter Tryd.func61, Tryd.ntmps61
      go_wp2_with fail
      (with_reducible refine (CM.out _ ((HR.out.below hb1).more hb1.size)).mono ?_); rintro e w2 ⟨rfl, g2⟩
      have h2 := hb1.trans (g2.mono hb1.size)
      have HB2 := HB.out.below g2 HB.out.lt
      have q0 : w2.cell? ⟨w.heap.size, 0, none⟩ = some (.string (bs x.1)) := HB2.cell 0
      have HB2 := Lib.hid HB2
      clear g2 p0 p1 hb1
      go_wp2_with fail
      (with_reducible refine (CV.out _ ((HR.out.below h2).more h2.size)).mono ?_); rintro e w3 ⟨A3, c3, rfl, _, _, g3⟩
      have h3 := h2.trans (g3.mono h2.size)
      have HB3 := HB2.out.below g3 HB2.out.lt
      have q1 : w3.cell? ⟨w.heap.size, 0, none⟩ = some (.string (bs x.1)) := HB3.cell 0
      have q2 : w3.cell? ⟨w.heap.size, 1, none⟩ = some (.string (bs x.2)) := HB3.cell 1
      clear g3 q0 h2 HB2 HB3
      go_wp2_with fail
      (with_reducible refine (CD.out _ ((HR.out.below h3).more h3.size)).mono ?_); rintro e w4 ⟨A4, c4, rfl, hc4, hr4, g4⟩
      go_wp2_with fail
      go_ret2
      exact ⟨_, _, rfl, hc4, hr4, h3.trans (g4.mono h3.size)⟩
    · rw [if_neg hz, if_neg hz]
      have z1 : ((V.length : Int) == 0) = false := by
        rw [beq_eq_false_iff_ne]
        intro h
        have : V.length = 0 := by omega
        exact hz (List.eq_nil_of_length_eq_zero (by omega))
      clear hvl hz hM CD
      unfold FldsPost
      go_enter Tryd.func61, Tryd.ntmps61
      go_wp2_with fail
      (with_reducible refine (CM.out _ ((HR.out.below hb1).more hb1.size)).mono ?_); rintro e w2 ⟨rfl, g2⟩
      have h2 := hb1.trans (g2.mono hb1.size)
      have HB2 := HB.out.below g2 HB.out.lt
      have q0 : w2.cell? ⟨w.heap.size, 0, none⟩ = some (.string (bs x.1)) := HB2.cell 0
      have HB2 := Lib.hid HB2
      clear g2 p0 p1 hb1
      go_wp2_with fail
      (with_reducible refine (CV.out _ ((HR.out.below h2).more h2.size)).mono ?_); rintro e w3 ⟨A3, c3, rfl, _, _, g3⟩
      have h3 := h2.trans (g3.mono h2.size)
      have HB3 := Lib.hid (HB2.out.below g3 HB2.out.lt)
      clear g3 q0 h2 HB2
      go_wp2_with fail
      go_loopw [7, 8, 9] (fun o d i wr => ∃ k : Nat, i = .int .i64 k ∧ k ≤ l.length ∧ d = .bool ((l.take k).any (sameN x.1)) ∧ Hid (wr.ownsRow w3.heap.size 52 2 o (putL x false (l.take k)).length (fldsC (putL x false (l.take k)))) ∧ Below w3.heap.size w3 wr) (fun _ _ i _ => l.length - (intOf i).toNat)
      case atStart => exact ⟨0, rfl, by omega, rfl, World.ownsRow_nil _ _ _ _, Below.refl _ _⟩
      case round =>
        obtain ⟨k, rfl, hk, rfl, HO, hb⟩ := hrel
        rename World => W0
        have hP := putL_len x false (l.take k)
        rw [List.length_take] at hP
        by_cases hlt : k < l.length
        · obtain ⟨b, o, rfl, hbl, q0, q1⟩ := HR.out.fld k hlt
          have hbw := h3.trans (hb.mono h3.size)
          have c0 := (hbw.cell (p := ⟨b, o + k * 2, none⟩) hbl).trans q0
          have c1 := (hbw.cell (p := ⟨b, o + k * 2 + 1, none⟩) hbl).trans q1
          have HB5 := Lib.hid (HB3.out.below hb HB3.out.lt)
          have f0 : W0.cell? ⟨w.heap.size, 0, none⟩ = some (.string (bs x.1)) := HB5.out.cell 0
          have f1 : W0.cell? ⟨w.heap.size, 1, none⟩ = some (.string (bs x.2)) := HB5.out.cell 1
          obtain ⟨f, hf⟩ : ∃ f, l[k] = f := ⟨_, rfl⟩
          have hok := HL.out l[k] (List.getElem_mem hlt)
          rw [hf] at c0 c1 hok
          have htk := take_snoc_of hlt hf
          have hPA := putL_app x false (l.take k) f
          have hAN : (l.take (k + 1)).any (sameN x.1) = ((l.take k).any (sameN x.1) || sameN x.1 f) := by rw [htk]; simp
          rw [← htk, Bool.false_or] at hPA
          have cS := fun w => rSame (bs f.1) (bs x.1) w (by rw [bs_size]; omega) (by rw [bs_size]; omega)
          rw [bs_list, bs_list] at cS
          have hss : (lowL f.1 == lowL x.1) = sameN x.1 f := rfl
          rw [hss] at cS
          generalize (l.take k).any (sameN x.1) = D at *
          clear q0 q1 htk hf hss
          rcases Bool.eq_false_or_eq_true (sameN x.1 f) with hs | hs
          · rw [hs, if_pos rfl] at hPA
            rw [hs, Bool.or_true] at hAN
            rw [hs] at cS
            have CS : Hid (∀ X, Hid (Below W0.heap.size W0 X) → Calls Tryd.prog 44 #[.string (bs f.1), .string (bs x.1)] X fun e w' => e = .returned (.bool true) ∧ Hid (Below W0.heap.size W0 w') ∧ (w'.cell? ⟨b, o + k * 2, none⟩ = some (.string (bs f.1)) ∧ w'.cell? ⟨w.heap.size, 0, none⟩ = some (.string (bs x.1)))) := hide fun X hX => (cS X).mono fun e w' ⟨he, hb'⟩ => ⟨he, hide (hX.out.trans (hb'.mono hX.out.size)), ((hX.out.trans (hb'.mono hX.out.size)).cell (p := ⟨b, o + k * 2, none⟩) (Nat.lt_of_lt_of_le hbl hbw.size)).trans c0, ((hX.out.trans (hb'.mono hX.out.size)).cell (p := ⟨w.heap.size, 0, none⟩) HB5.out.lt).trans f0⟩
            have HR0 : Hid (Below W0.heap.size W0 W0.drew) := hide (Below.refl _ _).drew
            clear cS hs
            cases D with
            | true =>
              rw [if_pos rfl, List.append_nil] at hPA
              have HPA := Lib.hid hPA
              have HAN := Lib.hid hAN
              clear hPA hAN
              go_wp2_with fail
              go_region_held3 (fun w' => w'.cell? ⟨b, o + k * 2, none⟩ = some (.string (bs f.1)) ∧ w'.cell? ⟨w.heap.size, 0, none⟩ = some (.string (bs x.1))) (go_keep) (first | (go_at_call 44; (with_reducible refine (CS.out _ (by assumption)).mono ?_); rintro r va ⟨rfl, hva, va0, va1⟩))
              have HO' : Hid (va.ownsRow w3.heap.size 52 2 u7 (putL x false (l.take (k + 1))).length (fldsC (putL x false (l.take (k + 1))))) := by
                show va.ownsRow _ _ _ _ _ _
                rw [HPA.out]; exact own_below HO.out hva.out
              have hbX := hb.trans (hva.out.mono hb.size)
              clear va0 va1 hva
              go_wp2_with fail
              go_roundw
              case rel => exact ⟨k + 1, by go_num, by omega, by rw [HAN.out], HO', hbX⟩
              case measure => simp [intOf]; omega
            | false =>
              rw [if_neg (by simp)] at hPA
              have HPA := Lib.hid hPA
              have HAN := Lib.hid hAN
              clear hPA hAN
              go_wp2_with fail
              go_region_held3 (fun w' => w'.cell? ⟨b, o + k * 2, none⟩ = some (.string (bs f.1)) ∧ w'.cell? ⟨w.heap.size, 0, none⟩ = some (.string (bs x.1))) (go_keep) (first | (go_at_call 44; (with_reducible refine (CS.out _ (by assumption)).mono ?_); rintro r va ⟨rfl, hva, va0, va1⟩))
              have hbX := hb.trans (hva.out.mono hb.size)
              have va2 : va.cell? ⟨w.heap.size, 1, none⟩ = some (.string (bs x.2)) := (HB5.out.below hva.out HB5.out.lt).cell 1
              obtain ⟨v', w5, hrun, hown, hb5, _⟩ := app_fld (own_below HO.out hva.out) hbX.size (by omega) x
              have HO' : Hid (w5.ownsRow w3.heap.size 52 2 v' (putL x false (l.take (k + 1))).length (fldsC (putL x false (l.take (k + 1))))) := by
                show w5.ownsRow _ _ _ _ _ _
                rw [HPA.out]; exact hown
              have HRUN := Lib.hid hrun
              have hbY := hbX.trans hb5
              clear hrun hown hb5 va0 hva hbX
              go_wp2_with (at_builtin; refine wpList_append_run HRUN.out rfl _ _ rfl rfl rfl rfl ?_)
              go_roundw
              case rel => exact ⟨k + 1, by go_num, by omega, by rw [HAN.out], HO', hbY⟩
              case measure => simp [intOf]; omega
          · rw [hs, if_neg (by simp)] at hPA
            rw [hs, Bool.or_false] at hAN
            rw [hs] at cS
            have CS : Hid (∀ X, Hid (Below W0.heap.size W0 X) → Calls Tryd.prog 44 #[.string (bs f.1), .string (bs x.1)] X fun e w' => e = .returned (.bool false) ∧ Hid (Below W0.heap.size W0 w') ∧ (w'.cell? ⟨b, o + k * 2, none⟩ = some (.string (bs f.1)) ∧ w'.cell? ⟨w.heap.size, 0, none⟩ = some (.string (bs x.1)))) := hide fun X hX => (cS X).mono fun e w' ⟨he, hb'⟩ => ⟨he, hide (hX.out.trans (hb'.mono hX.out.size)), ((hX.out.trans (hb'.mono hX.out.size)).cell (p := ⟨b, o + k * 2, none⟩) (Nat.lt_of_lt_of_le hbl hbw.size)).trans c0, ((hX.out.trans (hb'.mono hX.out.size)).cell (p := ⟨w.heap.size, 0, none⟩) HB5.out.lt).trans f0⟩
            have HR0 : Hid (Below W0.heap.size W0 W0.drew) := hide (Below.refl _ _).drew
            have HPA := Lib.hid hPA
            have HAN := Lib.hid hAN
            have HC := Lib.hid c1
            clear cS hs hPA hAN
            go_wp2_with fail
            go_region_held3 (fun w' => w'.cell? ⟨b, o + k * 2, none⟩ = some (.string (bs f.1)) ∧ w'.cell? ⟨w.heap.size, 0, none⟩ = some (.string (bs x.1))) (go_keep) (first | (go_at_call 44; (with_reducible refine (CS.out _ (by assumption)).mono ?_); rintro r va ⟨rfl, hva, va0, va1⟩))
            have hbX := hb.trans (hva.out.mono hb.size)
            have d1 := (hva.out.cell (p := ⟨b, o + k * 2 + 1, none⟩) (Nat.lt_of_lt_of_le hbl hbw.size)).trans HC.out
            obtain ⟨v', w5, hrun, hown, hb5, _⟩ := app_fld (own_below HO.out hva.out) hbX.size (by omega) f
            have HO' : Hid (w5.ownsRow w3.heap.size 52 2 v' (putL x false (l.take (k + 1))).length (fldsC (putL x false (l.take (k + 1))))) := by
              show w5.ownsRow _ _ _ _ _ _
              rw [HPA.out]; exact hown
            have HRUN := Lib.hid hrun
            have hbY := hbX.trans hb5
            clear hrun hown hb5 hva hbX c1
            go_wp2_with (at_builtin; refine wpList_append_run HRUN.out rfl _ _ rfl rfl rfl rfl ?_)
            go_roundw
            case rel => exact ⟨k + 1, by go_num, by omega, by rw [HAN.out], HO', hbY⟩
            case measure => simp [intOf]; omega
        · have hkl : k = l.length := by omega
          subst hkl
          have hd2 : decide ((l.length : Int) < (l.length : Int)) = false := by simp
          have ho := HO.out
          rw [List.take_length] at ho
          obtain ⟨A', cap, rfl⟩ := own_slice ho
          have HO2 := Lib.hid ho
          clear ho
          go_wp2_with fail
          go_ret2
          exact ⟨A', cap, rfl, own_capA HO2.out, Reads.of_own HO2.out, h3.trans (hb.mono h3.size)⟩
  · rw [if_neg hm, if_neg hm]
    have e2 : ((M : Int) != 0) = true := by rw [bne_iff_ne]; omega
    clear hM hvl
    unfold FldsPost
    go_enter Tryd.func61, Tryd.ntmps61
    go_wp2_with fail
    (with_reducible refine (CM.out _ ((HR.out.below hb1).more hb1.size)).mono ?_); rintro e w2 ⟨rfl, g2⟩
    go_wp2_with fail
    go_ret2
    exact ⟨none, 0, rfl, Nat.zero_le _, Reads.none_, hb1.trans (g2.mono hb1.size)⟩

set_option maxRecDepth 100000 in
set_option maxHeartbeats 8000000 in
theorem pPut (A : Option Addr) (n c : Nat) (l : List Fld) (x : Fld) (w : World) (hr : Reads w w.heap.size 2 A n (fldsC l)) (hn : n ≤ 100000) (hl : fldsOk l) (hx1 : x.1.length ≤ 100000) (hx2 : x.2.length ≤ 100000) :
    Calls Tryd.prog 60 #[.slice A n c, .agg #[.string (bs x.1), .string (bs x.2)]] w (FldsPost (putR l x) (putE l x) w) := by
  obtain rfl := hr.flen
  obtain ⟨M, hM⟩ : ∃ M, moreE l x = M := ⟨_, rfl⟩
  unfold putR putE
  rw [hM]
  by_cases hm : M = 0
  · subst hm
    rw [if_pos rfl, if_pos rfl]
    obtain ⟨hk, ho⟩ := moreE_zero hM
    rw [← askL_nil] at hk
    rcases hz : namedL x.1 0 l with _ | ⟨a0, r⟩
    · rw [if_pos rfl, if_pos rfl]
      obtain ⟨W1, hW1⟩ : ∃ W1, w.alloc (.cells #[.string (bs x.1), .string (bs x.2)] 52) = W1 := ⟨_, rfl⟩
      have hB1 : Blk W1 w.heap.size 52 #[.string (bs x.1), .string (bs x.2)] := by rw [← hW1]; exact Blk.new _ _ _
      have hb1 : Below w.heap.size w W1 := by rw [← hW1]; exact (Below.refl _ _).alloc (Nat.le_refl _) _
      have hr1 := (hr.below hb1).more hb1.size
      have cA := pask A none l.length c 0 0 l [] W1 hr1 Reads.none_ hn (by omega) hl (by simp)
      rw [hk, if_pos rfl] at cA
      have CA := Lib.hid cA
      have cO := fun w => pone x w hx1 hx2
      rw [ho] at cO
      unfold fldV at cO
      have CO := Lib.hid cO
      have cN := fun w hr => pnamed A l.length c l (bs x.1) w hr hn hl (by rw [bs_size]; omega)
      rw [bs_list, hz] at cN
      unfold IntsPost at cN
      have CN := Lib.hid cN
      have cD := fun w hr => pAdd A l.length c l x w hr hn hl hx1 hx2
      unfold FldsPost at cD ⊢
      have CD := Lib.hid cD
      have HR := Lib.hid hr
      have HB1 := Lib.hid hB1
      have e1 : (((0 : Nat) : Int) != 0) = false := rfl
      obtain ⟨AL, hAL⟩ : ∃ AL, addL l x = AL := ⟨_, rfl⟩
      obtain ⟨AE, hAE⟩ : ∃ AE, addE l x = AE := ⟨_, rfl⟩
      rw [hAL, hAE] at CD ⊢
      clear hAL hAE cA cO cN cD hr hl hB1 ho hr1 hk hM hz
      go_enter Tryd.func60, Tryd.ntmps60
      go_wp2_with fail
      (with_reducible refine (CA.out).mono ?_); rintro e w2 ⟨rfl, g2⟩
      have hb2 := hb1.trans (g2.mono hb1.size)
      have hB2 := HB1.out.below g2 HB1.out.lt
      obtain ⟨W2, hW2⟩ : ∃ W2, w2.alloc (.cells #[.slice A l.length c, .slice none 0 0] 116) = W2 := ⟨_, rfl⟩
      have hB2' : Blk W2 w.heap.size 52 #[.string (bs x.1), .string (bs x.2)] := by rw [← hW2]; exact hB2.alloc _
      have hb2' : Below w.heap.size w W2 := by rw [← hW2]; exact hb2.alloc hb2.size _
      have HB2 := Lib.hid hB2'
      have d0 : W2.cell? ⟨w.heap.size, 0, none⟩ = some (.string (bs x.1)) := hB2'.cell 0
      have d1 : W2.cell? ⟨w.heap.size, 1, none⟩ = some (.string (bs x.2)) := hB2'.cell 1
      clear g2 hb2 hB2 hB2' hb1
      subst hW2
      go_wp2_with fail
      (with_reducible refine (CO.out _).mono ?_); rintro e w3 ⟨rfl, g3⟩
      have hb3 := hb2'.trans (g3.mono hb2'.size)
      have hB3 := HB2.out.below g3 HB2.out.lt
      have HB3 := Lib.hid hB3
      have e0 : w3.cell? ⟨w.heap.size, 0, none⟩ = some (.string (bs x.1)) := hB3.cell 0
      clear g3 hB3 d0 d1 hb2'
      go_wp2_with fail
      (with_reducible refine (CN.out _ ((HR.out.below hb3).more hb3.size)).mono ?_); rintro e w4 ⟨A1, cap1, rfl, hr4, g4⟩
      have hb4 := hb3.trans (g4.mono hb3.size)
      have hB4 := HB3.out.below g4 HB3.out.lt
      have e3 : w4.cell? ⟨w.heap.size, 0, none⟩ = some (.string (bs x.1)) := hB4.cell 0
      have e4 : w4.cell? ⟨w.heap.size, 1, none⟩ = some (.string (bs x.2)) := hB4.cell 1
      clear g4 hB4 e0 hb3 hr4 e1
      go_wp2_with fail
      (with_reducible refine (CD.out _ ((HR.out.below hb4).more hb4.size)).mono ?_); rintro e w5 ⟨A5, c5, rfl, hc5, hr5, g5⟩
      go_wp2_with fail
      go_ret2
      exact ⟨_, _, rfl, hc5, hr5, hb4.trans (g5.mono hb4.size)⟩
    · rw [if_neg (by simp), if_neg (by simp)]
      exact pPutHit A l.length c l x w hr hn hl hx1 hx2 hk ho a0 r hz
  · rw [if_neg hm, if_neg hm]
    have cO := fun w => pone x w hx1 hx2
    unfold fldV at cO
    obtain ⟨O, hO⟩ : ∃ O, oneL x = O := ⟨_, rfl⟩
    rw [hO] at cO
    have C1 := Lib.hid cO
    obtain ⟨W1, hW1⟩ : ∃ W1, w.alloc (.cells #[.string (bs x.1), .string (bs x.2)] 52) = W1 := ⟨_, rfl⟩
    have hB1 : Blk W1 w.heap.size 52 #[.string (bs x.1), .string (bs x.2)] := by rw [← hW1]; exact Blk.new _ _ _
    have hb1 : Below w.heap.size w W1 := by rw [← hW1]; exact (Below.refl _ _).alloc (Nat.le_refl _) _
    have cA := pask A none l.length c 0 0 l [] W1 ((hr.below hb1).more hb1.size) Reads.none_ hn (by omega) hl (by simp)
    obtain ⟨E, hE⟩ : ∃ E, askL l [] = E := ⟨_, rfl⟩
    rw [hE] at cA
    rw [askL_nil] at hE
    have hM2 : moreE l x = if E ≠ 0 then E else O := by unfold moreE; rw [hE, hO]
    rw [hM] at hM2
    have HB := Lib.hid hB1
    clear cO hO hE hr hB1 hM
    unfold FldsPost
    by_cases he : E = 0
    · subst he
      rw [if_pos rfl] at cA
      rw [if_neg (by simp)] at hM2
      subst hM2
      have CA := Lib.hid cA
      have e1 : (((0 : Nat) : Int) != 0) = false := rfl
      have e2 : ((M : Int) != 0) = true := by rw [bne_iff_ne]; omega
      clear cA
      go_enter Tryd.func60, Tryd.ntmps60
      go_wp2_with fail
      (with_reducible refine (CA.out).mono ?_); rintro e w2 ⟨rfl, g2⟩
      have h2 := hb1.trans (g2.mono hb1.size)
      have HB2 := HB.out.below g2 HB.out.lt
      have h3 := h2.alloc h2.size (.cells #[.slice A l.length c, .slice none 0 0] 116)
      have d0 : (w2.alloc (.cells #[.slice A l.length c, .slice none 0 0] 116)).cell? ⟨w.heap.size, 0, none⟩ = some (.string (bs x.1)) := (HB2.alloc _).cell 0
      have d1 : (w2.alloc (.cells #[.slice A l.length c, .slice none 0 0] 116)).cell? ⟨w.heap.size, 1, none⟩ = some (.string (bs x.2)) := (HB2.alloc _).cell 1
      clear HB2
      go_wp2_with fail
      (with_reducible refine (C1.out _).mono ?_); rintro e w4 ⟨rfl, g4⟩
      go_wp2_with fail
      go_ret2
      exact ⟨none, 0, rfl, Nat.zero_le _, Reads.none_, h3.trans (g4.mono h3.size)⟩
    · rw [if_neg he] at cA
      rw [if_pos he] at hM2
      subst hM2
      unfold nilAsk at cA
      have CA := Lib.hid cA
      have e2 : ((M : Int) != 0) = true := by rw [bne_iff_ne]; omega
      clear cA
      go_enter Tryd.func60, Tryd.ntmps60
      go_wp2_with fail
      (with_reducible refine (CA.out).mono ?_); rintro e w2 ⟨rfl, g2⟩
      have h2 := hb1.trans (g2.mono hb1.size)
      go_wp2_with fail
      go_ret2
      exact ⟨none, 0, rfl, Nat.zero_le _, Reads.none_, h2.alloc h2.size _⟩
end Go.Proofs.YtepemdmjbfoiaaaDoor
