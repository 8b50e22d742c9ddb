/-
  waypostlaw12.RespondSafe: true, whatever the response.
-/
import Derived.Test.YthhlnpfcpgfcfaaGreatDoorRn1
import Derived.Test.YthhlnpfcpgfcfaaGreatDoorRt1
import Derived.Test.YthhlnpfcpgfcfaaGreatDoorRs8
import Derived.Test.YthhlnpfcpgfcfaaGreatDoorT12
namespace Go.Proofs.YthhlnpfcpgfcfaaGreatDoor
open Go.RowKit

def lenAt (L : List (List UInt8)) (j : Nat) : Nat := (L.getD j []).length
theorem lenAt_at {L : List (List UInt8)} {j : Nat} (h : j < L.length) : lenAt L j = L[j].length := by
  unfold lenAt; rw [List.getD_eq_getElem?_getD, List.getElem?_eq_getElem h]; rfl
theorem lenAt_end (L : List (List UInt8)) : lenAt L L.length = 0 := by
  unfold lenAt; rw [List.getD_eq_getElem?_getD, List.getElem?_eq_none (Nat.le_refl _)]; rfl
theorem off_zero (L : List (List UInt8)) : offR L 0 = 0 := by simp [offR, endsR]
/-- what stands behind the beginning of line j -/
theorem drop_at (L : List (List UInt8)) (t : List UInt8) (j : Nat) (hj : j ≤ L.length) : ∃ r, (endsR L ++ 13 :: 10 :: t).drop (offR L j) = L.getD j [] ++ 13 :: 10 :: r := by
  rcases Nat.lt_or_ge j L.length with h | h
  · refine ⟨endsR (L.drop (j + 1)) ++ 13 :: 10 :: t, ?_⟩
    rw [at_line L (13 :: 10 :: t) j h, List.getD_eq_getElem?_getD, List.getElem?_eq_getElem h]
    rfl
  · obtain rfl : j = L.length := by omega
    refine ⟨t, ?_⟩
    rw [at_end, List.getD_eq_getElem?_getD, List.getElem?_eq_none (Nat.le_refl _)]
    rfl
theorem off_lf (L : List (List UInt8)) (t : List UInt8) (j : Nat) (hj : j ≤ L.length) (i : Nat) (hi : i + 1 = offR L j) : (endsR L ++ t)[i]? = some 10 := by
  cases j with
  | zero => rw [off_zero] at hi; omega
  | succ j =>
    have h1 := at_line L t j (by omega)
    have h2 := offR_succ L j (by omega)
    have : i = offR L j + (L[j].length + 1) := by omega
    rw [this, get_drop h1, List.getElem?_append_right (by omega)]
    simp
theorem off_len (L : List (List UInt8)) (t : List UInt8) (j : Nat) (hj : j ≤ L.length) : offR L j + lenAt L j + 2 ≤ (endsR L ++ 13 :: 10 :: t).length := by
  obtain ⟨r, hr⟩ := drop_at L t j hj
  have := congrArg List.length hr
  rw [List.length_drop] at this
  simp only [List.length_append, List.length_cons] at this ⊢
  unfold lenAt
  omega
theorem at_in (L : List (List UInt8)) (t : List UInt8) (j i : Nat) (hj : j ≤ L.length) (h1 : offR L j ≤ i) (h2 : i < offR L j + lenAt L j) : ∃ c ∈ L.getD j [], (endsR L ++ 13 :: 10 :: t)[i]? = some c := by
  obtain ⟨r, hr⟩ := drop_at L t j hj
  obtain ⟨m, rfl⟩ : ∃ m, i = offR L j + m := ⟨i - offR L j, by omega⟩
  have hk : m < (L.getD j []).length := by unfold lenAt at h2; omega
  refine ⟨(L.getD j [])[m], List.getElem_mem hk, ?_⟩
  rw [get_drop hr, List.getElem?_append_left hk, List.getElem?_eq_getElem hk]
theorem at_cr (L : List (List UInt8)) (t : List UInt8) (j : Nat) (hj : j ≤ L.length) : (endsR L ++ 13 :: 10 :: t)[offR L j + lenAt L j]? = some 13 ∧ (endsR L ++ 13 :: 10 :: t)[offR L j + lenAt L j + 1]? = some 10 := by
  obtain ⟨r, hr⟩ := drop_at L t j hj
  refine ⟨?_, ?_⟩
  · rw [get_drop hr]; unfold lenAt; simp
  · rw [Nat.add_assoc, get_drop hr]; unfold lenAt; rw [List.getElem?_append_right (by omega)]; simp
theorem cut_at (L : List (List UInt8)) (t : List UInt8) (j : Nat) (hj : j ≤ L.length) : (bs (endsR L ++ 13 :: 10 :: t)).extract (offR L j) (offR L j + lenAt L j) = bs (L.getD j []) := by
  obtain ⟨r, hr⟩ := drop_at L t j hj
  rw [xb]
  congr 1
  have : ((endsR L ++ 13 :: 10 :: t).take (offR L j + lenAt L j)).drop (offR L j) = ((endsR L ++ 13 :: 10 :: t).drop (offR L j)).take (lenAt L j) := by rw [List.drop_take]; congr 1; omega
  rw [this, hr]
  unfold lenAt
  rw [List.take_left]
theorem byte_at {T : List UInt8} {i : Nat} {c : UInt8} (h : T[i]? = some c) (hi : i < (bs T).size) : (bs T)[i] = c := by
  have hl : i < T.length := by rw [bs_size] at hi; exact hi
  rw [List.getElem?_eq_getElem hl] at h
  injection h
theorem textR_len {r : Rsp} (h : checkR r = 0) : (textR r).length ≤ 100000 := by
  obtain ⟨_, _, _, hb⟩ := check_ok h
  have h1 := bufR_len h r.flds.length
  have h2 : (lenR r.body.length).length ≤ 20 := by unfold lenR; have := dec_len r.body.length (by omega); simp only [List.length_append, List.length_cons, List.length_nil]; omega
  rw [textR_buf]
  have h3 : (if r.close = true then closeR ++ [13, 10] else []).length ≤ 19 := by cases r.close <;> simp [closeR]
  have h4 : (if r.head = true then ([] : List UInt8) else r.body).length ≤ 4096 := by cases r.head <;> simp <;> omega
  simp only [List.length_append, List.length_cons, List.length_nil]
  omega
theorem textR_lines (r : Rsp) : textR r = endsR (linesR r) ++ 13 :: 10 :: (if r.head = true then [] else r.body) := by
  rw [text_lines]; simp
set_option maxRecDepth 100000 in
set_option maxHeartbeats 8000000 in
theorem RespondSafe_of (hAw : Awake12) (r : Rsp) (A : Option Addr) (n c : Nat) (w : World) (hr : Reads w w.heap.size 2 A n (fldsC r.flds)) (hn : n ≤ 9223372036854775807) (hb : r.body.length ≤ 9223372036854775807) (hx : ∀ f ∈ r.flds, f.1.length ≤ 9223372036854775807 ∧ f.2.length ≤ 9223372036854775807) (ht : Tab12 w) :
    Calls Tryz.prog 3 #[rspV r A n c] w fun e w' => e = .returned (.bool true) ∧ Below w.heap.size w w' := by
  obtain rfl := hr.flen
  have b0 : Below w.heap.size w (w.alloc (.cells #[.int .i64 r.code, .slice A r.flds.length c, .string (bs r.body), .bool r.close, .bool r.head] 24)) := (Below.refl _ _).alloc (Nat.le_refl _) _
  have k0 := Blk.new w 24 #[.int .i64 r.code, .slice A r.flds.length c, .string (bs r.body), .bool r.close, .bool r.head]
  have cL := pLight12 r A r.flds.length c (w.alloc (.cells #[.int .i64 r.code, .slice A r.flds.length c, .string (bs r.body), .bool r.close, .bool r.head] 24)) ((hr.below b0).more b0.size) hn hb hx
  unfold rspV at cL ⊢
  have B0 := Lib.hid b0
  have K0 := Lib.hid k0
  have HR := Lib.hid hr
  have HT := Lib.hid ht
  have CL := Lib.hid cL
  have AW := Lib.hid hAw
  clear b0 k0 hr ht cL hAw
  go_enter Tryz.func3, Tryz.ntmps3
  go_wp2_with fail
  (with_reducible refine (CL.out).mono ?_); rintro e w1 ⟨lb, rfl, hlb, g1⟩
  have G1 := Lib.hid (B0.out.trans (g1.mono B0.out.size))
  have K1 := Lib.hid (K0.out.below g1 K0.out.lt)
  clear g1 CL
  cases lb with
  | false =>
    have CA := Lib.hid (AW.out w1 (HT.out.below G1.out))
    clear hlb
    go_wp2_with fail
    (with_reducible refine (CA.out).mono ?_); rintro e w2 ⟨rfl, g2⟩
    go_wp2_with fail
    go_ret
    exact ⟨rfl, G1.out.trans (g2.mono G1.out.size)⟩
  | true =>
    obtain ⟨l1, l2, l3⟩ := hlb rfl
    have CO := Lib.hid (pOwn12 r A r.flds.length c w1 ((HR.out.below G1.out).more G1.out.size) (by omega))
    unfold rspV at CO
    have c0 : w1.cell? ⟨w.heap.size, 0, none⟩ = some (.int .i64 r.code) := K1.out.cell 0
    have c1 : w1.cell? ⟨w.heap.size, 1, none⟩ = some (.slice A r.flds.length c) := K1.out.cell 1
    have c2 : w1.cell? ⟨w.heap.size, 2, none⟩ = some (.string (bs r.body)) := K1.out.cell 2
    have c3 : w1.cell? ⟨w.heap.size, 3, none⟩ = some (.bool r.close) := K1.out.cell 3
    have c4 : w1.cell? ⟨w.heap.size, 4, none⟩ = some (.bool r.head) := K1.out.cell 4
    go_wp2_with fail
    (with_reducible refine (CO.out).mono ?_); rintro e w2 ⟨B, d, rfl, hd, hrB, g2⟩
    have G2 := Lib.hid (G1.out.trans (g2.mono G1.out.size))
    have K2 := Lib.hid (K1.out.below g2 K1.out.lt)
    have CT := Lib.hid (pTextR r B r.flds.length d w2 hrB (by omega) (fun f hf => by have := l3 f hf; omega) (by omega) (HT.out.below G2.out).r)
    clear g2 CO c0 c1 c2 c3 c4 hrB
    go_wp2_with fail
    (with_reducible refine (CT.out).mono ?_); rintro e w3 ⟨rfl, g3⟩
    have G3 := Lib.hid (G2.out.trans (g3.mono G2.out.size))
    have K3 := Lib.hid (K2.out.below g3 K2.out.lt)
    clear g3 CT
    by_cases hc : checkR r = 0
    · have hto : textOf r = textR r := if_pos hc
      have htl := textR_lines r
      obtain ⟨hs1, hs2, hs3, hs4⟩ := lines_ok hc
      have hsl := textR_len hc
      have hcz : ((checkR r : Int) != 0) = false := by rw [hc]; rfl
      rw [hto]
      obtain ⟨L, hL⟩ : ∃ L, linesR r = L := ⟨_, rfl⟩
      obtain ⟨bd, hbd⟩ : ∃ bd, (if r.head = true then [] else r.body) = bd := ⟨_, rfl⟩
      rw [hL, hbd] at htl
      rw [hL] at hs1 hs2 hs3 hs4
      rw [htl] at hsl ⊢
      have HBD := Lib.hid hbd
      obtain ⟨T, hT⟩ : ∃ T, endsR L ++ 13 :: 10 :: bd = T := ⟨_, rfl⟩
      rw [hT] at hsl ⊢
      have hzT := bs_size T
      have HTT := Lib.hid hT
      have HS := Lib.hid (And.intro hs1 hs2)
      clear hto htl hc hL hbd hT hs1 hs2
      go_wp2_with fail
      go_loopw [5, 6, 7] (fun a b i wr => ∃ j k : Nat, a = .int .i64 j ∧ b = .int .i64 (offR L j : Nat) ∧ i = .int .i64 k ∧ j ≤ L.length ∧ offR L j ≤ k + 1 ∧ k ≤ offR L j + lenAt L j ∧ Hid (Below w3.heap.size w3 wr)) (fun _ _ i _ => T.length - (intOf i).toNat)
      case atStart => exact ⟨0, 0, rfl, by rw [off_zero]; rfl, rfl, by omega, by rw [off_zero]; omega, by omega, hide (Below.refl _ _)⟩
      case round =>
        obtain ⟨j, k, rfl, rfl, rfl, hj, hk1, hk2, hBw⟩ := hrel
        rename World => wr
        have hol := off_len L bd j hj
        rw [HTT.out] at hol
        have hks : k < (bs T).size := by omega
        have hks1 : k + 1 < (bs T).size := by omega
        by_cases ha : k + 1 = offR L j
        · have hb := byte_at (by have := off_lf L (13 :: 10 :: bd) j hj k ha; rw [HTT.out] at this; exact this) hks
          have h2 := off_len L bd j hj
          obtain ⟨o, ho⟩ : ∃ o, offR L j = o := ⟨_, rfl⟩
          rw [ho] at hk1 hk2 hol ha ⊢
          have HOO := Lib.hid ho
          clear ho h2
          go_wp2_with fail
          go_roundw
          case rel => exact ⟨j, k + 1, rfl, by rw [HOO.out], by go_num, hj, by rw [HOO.out]; omega, by rw [HOO.out]; omega, hBw⟩
          case measure => simp [intOf]; omega
        · by_cases hb2 : k < offR L j + lenAt L j
          · obtain ⟨c, hc, hg⟩ := at_in L bd j k hj (by omega) hb2
            rw [HTT.out] at hg
            have hb := byte_at hg hks
            have hjl : j < L.length := by
              rcases Nat.lt_or_ge j L.length with h | h
              · exact h
              · obtain rfl : j = L.length := by omega
                rw [lenAt_end] at hb2
                omega
            have hsafe := (HS.out.1 L[j] (List.getElem_mem hjl)).2 c (by
              rw [List.getD_eq_getElem?_getD, List.getElem?_eq_getElem hjl] at hc; exact hc)
            have c13 : ((c.toNat : Int) != 13) = true := by rw [bne_iff_ne]; omega
            obtain ⟨o, ho⟩ : ∃ o, offR L j = o := ⟨_, rfl⟩
            obtain ⟨m, hm⟩ : ∃ m, lenAt L j = m := ⟨_, rfl⟩
            rw [ho] at hk1 hk2 hol ha hb2 ⊢
            rw [hm] at hk2 hol hb2
            have HOO := Lib.hid (And.intro ho hm)
            clear ho hm hc hg hsafe
            go_wp2_with fail
            go_roundw
            case rel => exact ⟨j, k + 1, rfl, by rw [HOO.out.1], by go_num, hj, by rw [HOO.out.1]; omega, by rw [HOO.out.1, HOO.out.2]; omega, hBw⟩
            case measure => simp [intOf]; omega
          · have hko : k = offR L j + lenAt L j := by omega
            obtain ⟨q1, q2⟩ := at_cr L bd j hj
            rw [← hko, HTT.out] at q1 q2
            have hb := byte_at q1 hks
            have hb1 := byte_at q2 hks1
            have hcut := cut_at L bd j hj
            rw [← hko, HTT.out] at hcut
            have i0 : (0 : Int) ≤ (k : Int) := by omega
            have i1 : (k : Int) ≤ (T.length : Int) := by omega
            have i2 : ((offR L j : Nat) : Int) ≤ (k : Int) := by omega
            by_cases hjl : j < L.length
            · have hl : L.getD j [] = L[j] := by rw [List.getD_eq_getElem?_getD, List.getElem?_eq_getElem hjl]; rfl
              rw [hl] at hcut
              have hsf := HS.out.1 L[j] (List.getElem_mem hjl)
              have hnm := HS.out.2 j hjl
              have hoff : offR L (j + 1) = k + 2 := by rw [offR_succ L j hjl, hko, lenAt_at hjl]
              have hlen1 : L[j].length ≤ 1000000 := by rw [← lenAt_at hjl]; omega
              obtain ⟨l, hll⟩ : ∃ l, L[j] = l := ⟨_, rfl⟩
              rw [hll] at hcut hsf hnm hlen1
              obtain ⟨e1, e2⟩ := nemp_bs hsf.1
              have CS := Lib.hid (pSafe l hsf hlen1 wr)
              obtain ⟨o, ho⟩ : ∃ o, offR L j = o := ⟨_, rfl⟩
              rw [ho] at hk1 hk2 hol ha hb2 hcut i2 ⊢
              have HOO := Lib.hid hoff
              clear ho hl hll hoff q1 q2 hsf hko
              by_cases hj0 : 0 < j
              · have CN := Lib.hid (fun X => pNamed l (hnm hj0) hlen1 X)
                have dj : decide ((0 : Int) < (j : Int)) = true := by simp; omega
                clear hnm hj0
                go_wp2_with fail
                (with_reducible refine (CS.out).mono ?_); rintro e w5 ⟨rfl, g5⟩
                have HB5 := Lib.hid (hBw.out.trans (g5.mono hBw.out.size))
                clear g5
                go_wp2_with fail
                (with_reducible refine (CN.out _).mono ?_); rintro e w6 ⟨rfl, rfl⟩
                go_wp2_with fail
                all_goals exact ⟨⟨j + 1, k + 1, by go_num, by rw [HOO.out]; go_num, by go_num, hjl, by rw [HOO.out]; omega, by rw [HOO.out]; omega, HB5⟩, by simp [intOf]; omega⟩
              · obtain rfl : j = 0 := by omega
                clear hnm hj0
                go_wp2_with fail
                (with_reducible refine (CS.out).mono ?_); rintro e w5 ⟨rfl, g5⟩
                have HB5 := Lib.hid (hBw.out.trans (g5.mono hBw.out.size))
                clear g5
                go_wp2_with fail
                all_goals exact ⟨⟨1, k + 1, rfl, by rw [HOO.out]; go_num, by go_num, hjl, by rw [HOO.out]; omega, by rw [HOO.out]; omega, HB5⟩, by simp [intOf]; omega⟩
            · obtain rfl : j = L.length := by omega
              have hl : L.getD L.length [] = [] := by rw [List.getD_eq_getElem?_getD, List.getElem?_eq_none (Nat.le_refl _)]; rfl
              rw [hl] at hcut
              obtain ⟨e1, e2⟩ := emp_bs (rfl : ([] : List UInt8) = [])
              have hend := at_end L (13 :: 10 :: bd)
              rw [HTT.out] at hend
              have hdrop : T.drop (k + 2) = bd := by
                rw [hko, lenAt_end, Nat.add_zero, ← List.drop_drop, hend]
                rfl
              have hxe := xb_end T (k + 2)
              rw [hdrop, hzT] at hxe
              have GB := Lib.hid (G3.out.trans (hBw.out.mono G3.out.size))
              have KB := Lib.hid (K3.out.below hBw.out K3.out.lt)
              have i3 : ((k + 2 : Nat) : Int) ≤ (T.length : Int) := by omega
              have dl1 : decide ((2 : Int) ≤ (L.length : Int)) = true := by simp; omega
              have dl2 : decide ((L.length : Int) ≤ (r.flds.length : Int) + 3) = true := by simp; omega
              have dl3 : decide (2 ≤ L.length) = true := by simp; omega
              have ebd : ((bs bd).toList == (bs bd).toList) = true := by simp
              have CA := Lib.hid (AW.out wr (HT.out.below GB.out))
              have c1 : wr.cell? ⟨w.heap.size, 1, none⟩ = some (.slice A r.flds.length c) := KB.out.cell 1
              have c2 : wr.cell? ⟨w.heap.size, 2, none⟩ = some (.string (bs r.body)) := KB.out.cell 2
              have c4 : wr.cell? ⟨w.heap.size, 4, none⟩ = some (.bool r.head) := KB.out.cell 4
              obtain ⟨o, ho⟩ : ∃ o, offR L L.length = o := ⟨_, rfl⟩
              rw [ho] at hk1 hk2 hol ha hb2 hcut i2 ⊢
              obtain ⟨N, hN⟩ : ∃ N, L.length = N := ⟨_, rfl⟩
              rw [hN] at dl1 dl2 dl3 hs3 hs4 hj ⊢
              have HBB := HBD.out
              clear ho hl hend hdrop q1 q2 hko hjl hN
              cases hh : r.head with
              | true =>
                rw [hh, if_pos rfl] at HBB
                rw [hh] at c4
                subst HBB
                go_wp2_with fail
                (with_reducible refine (CA.out).mono ?_); rintro e w6 ⟨rfl, g6⟩
                go_wp2_with fail
                go_ret
                exact ⟨rfl, GB.out.trans (g6.mono GB.out.size)⟩
              | false =>
                rw [hh, if_neg (by simp)] at HBB
                rw [hh] at c4
                subst HBB
                go_wp2_with fail
                (with_reducible refine (CA.out).mono ?_); rintro e w6 ⟨rfl, g6⟩
                go_wp2_with fail
                go_ret
                exact ⟨rfl, GB.out.trans (g6.mono GB.out.size)⟩
    · have hne : ((checkR r : Int) != 0) = true := by rw [bne_iff_ne]; omega
      have hto : textOf r = [] := if_neg hc
      obtain ⟨m1, m2⟩ := emp_bs hto
      have CA := Lib.hid (AW.out w3 (HT.out.below G3.out))
      clear hto hc
      go_wp2_with fail
      (with_reducible refine (CA.out).mono ?_); rintro e w4 ⟨rfl, g4⟩
      go_wp2_with fail
      go_ret
      exact ⟨rfl, G3.out.trans (g4.mono G3.out.size)⟩
end Go.Proofs.YthhlnpfcpgfcfaaGreatDoor
