/-
  TokenTrims holds at any string.
-/
import Derived.Test.YtepemdmjbfoiaaaDoorLTokKnown
namespace Go.Proofs.YtepemdmjbfoiaaaDoor
open Go.RowKit

theorem bneT5 {a b : Int} (h : a ≠ b) : (a != b) = true := bne_iff_ne.2 h
theorem bneF5 {a b : Int} (h : a = b) : (a != b) = false := by simp [h]
theorem dropWhile_twice (p : UInt8 → Bool) (l : List UInt8) : (l.dropWhile p).dropWhile p = l.dropWhile p := by
  induction l with
  | nil => rfl
  | cons a l ih =>
    rw [List.dropWhile_cons]
    split
    · exact ih
    · rename_i h; rw [List.dropWhile_cons, if_neg h]
theorem trimR_twice (l : List UInt8) : trimR (trimR l) = trimR l := by
  unfold trimR; rw [List.reverse_reverse, dropWhile_twice]
theorem trimL_twice (l : List UInt8) : trimL (trimL l) = trimL l := by
  rw [trimL_comm (trimL l)]
  have h : (trimL l).dropWhile isB = trimL l := by unfold trimL; rw [dropWhile_twice]
  rw [h, trimL_comm l, trimR_twice]
theorem valB_blank {b : UInt8} (h : isB b = true) : valB b = true := by
  refine (val_iff _).2 ?_
  have := (isB_iff b).1 h
  omega
theorem all_dropW (l : List UInt8) : (l.dropWhile isB).all valB = l.all valB := by
  induction l with
  | nil => rfl
  | cons a l ih =>
    rw [List.dropWhile_cons]
    split
    · rename_i h; rw [ih, List.all_cons, valB_blank h, Bool.true_and]
    · rfl
theorem all_trimL (l : List UInt8) : (trimL l).all valB = l.all valB := by
  unfold trimL
  rw [all_dropW, List.all_reverse, all_dropW, List.all_reverse]
theorem isVal_trimL (l : List UInt8) : isVal (trimL l) = l.all valB := by
  unfold isVal
  rw [trimL_twice, beq_self_eq_true, Bool.true_and]
  exact all_trimL l
theorem all_take_succ (p : UInt8 → Bool) (l : List UInt8) (k : Nat) (h : k < l.length) : (l.take (k + 1)).all p = ((l.take k).all p && p l[k]) := by
  rw [List.take_succ_eq_append_getElem h, List.all_append]; simp
theorem isTok_one (c : UInt8) : isTok [c] = tokB c := by
  show (!([c] : List UInt8).isEmpty && ([c] : List UInt8).all tokB) = tokB c
  simp
theorem extract_one (s : ByteArray) (h : 0 < s.size) : s.extract 0 1 = bs [s[0]] := by
  refine ba_ext ?_
  rw [extract_list, List.drop_zero, bs_list]
  have hl : 0 < s.data.toList.length := by rw [size_l]; exact h
  rw [List.take_succ_eq_append_getElem hl, List.take_zero]
  rfl

theorem cut_none {l : List UInt8} (h : l.takeWhile tokB = []) (c : UInt8) (hc : l.head? = some c) : tokB c = false := by
  cases l with
  | nil => simp at hc
  | cons b l =>
    simp at hc
    subst hc
    rw [List.takeWhile_cons] at h
    split at h
    · simp at h
    · rename_i h2; simpa using h2
theorem drop_head {l : List UInt8} (c : UInt8) (hc : (l.dropWhile tokB).head? = some c) : tokB c = false := by
  induction l with
  | nil => simp at hc
  | cons b l ih =>
    rw [List.dropWhile_cons] at hc
    split at hc
    · exact ih hc
    · rename_i h; simp at hc; subst hc; simpa using h
theorem head_at (s : ByteArray) (h : 0 < s.size) : s.data.toList.head? = some s[0] := by
  rw [List.head?_eq_getElem?, List.getElem?_eq_getElem (by rw [size_l]; exact h)]; rfl

set_option maxRecDepth 100000 in
set_option maxHeartbeats 16000000 in
theorem TokenTrims_small (s : ByteArray) (w : World) (hs : s.size ≤ 200) :
    Calls Tryd.prog 8 #[.string s] w fun e w' => e = .returned (.bool true) ∧ Below w.heap.size w w' := by
  have d1 : decide ((200 : Int) < (s.size : Int)) = false := by simp; omega
  obtain ⟨t, ht⟩ : ∃ t, tr s = t := ⟨_, rfl⟩
  have htl : t.data.toList = trimL s.data.toList := by rw [← ht]; rfl
  have hts : t.size ≤ 200 := by rw [← ht]; have := tr_size s; omega
  have c1 := fun w => TTrim_any s w (by omega)
  rw [ht] at c1
  have c2 := fun w => TTrim_any t w (by omega)
  rw [show tr t = t from ba_ext (by rw [tr_list, htl, trimL_twice])] at c2
  obtain ⟨F, hF⟩ : ∃ F, s.data.toList.all valB = F := ⟨_, rfl⟩
  have c3 := fun w => TValue_any t w (by omega)
  rw [htl, isVal_trimL, hF] at c3
  have c4 := fun w => TCut_any s w (by omega)
  have CI := Lib.hid TIs_any
  have C1 := Lib.hid c1
  have C2 := Lib.hid c2
  have C3 := Lib.hid c3
  have HF := Lib.hid hF
  have C4 := Lib.hid c4
  clear c1 c2 c3 c4 hF ht htl
  go_enter Tryd.func8, Tryd.ntmps8
  go_wp2_with fail
  (with_reducible refine (TokenKnown_true _).mono ?_); rintro e w1 ⟨rfl, hb1⟩
  go_wp2_with fail
  (with_reducible refine (C1.out _).mono ?_); rintro e w2 ⟨rfl, hb2⟩
  replace hb2 := hb1.trans (hb2.mono hb1.size)
  clear hb1
  go_wp2_with fail
  go_loop [5, 6] (fun f i => ∃ (k : Nat) (g : Bool), f = .bool g ∧ i = .int .i64 k ∧ k ≤ s.size ∧ Hid ((s.data.toList.take k).all valB = g)) (fun _ i => s.size - (intOf i).toNat)
  case atStart => exact ⟨0, true, rfl, rfl, by omega, hide (by simp)⟩
  case round =>
    obtain ⟨k, g, rfl, rfl, hk, HG⟩ := hrel
    by_cases hlt : k < s.size
    · have hN : ∀ r, (g && valB s[k]) = r → Hid ((s.data.toList.take (k + 1)).all valB = r) := fun r hr => by
        show _ = _
        rw [all_take_succ valB _ k (by rw [size_l]; exact hlt), HG.out]
        exact hr
      have hv := val_iff s[k].toNat
      have hn8 := s[k].toNat_lt
      cases g
      · have HN := hN false rfl
        clear hN hv hn8
        go_wp2_with fail
        exact ⟨⟨k + 1, false, rfl, by go_num, by omega, HN⟩, by simp [intOf]; omega⟩
      · by_cases h32 : s[k].toNat = 32
        · have HN := hN true (by rw [Bool.true_and]; exact hv.2 (.inl h32))
          have q := eqb_t (show (s[k].toNat : Int) = 32 by omega)
          clear hN hv hn8 h32
          go_wp2_with fail
          exact ⟨⟨k + 1, true, rfl, by go_num, by omega, HN⟩, by simp [intOf]; omega⟩
        · have q32 := eqb_f (show (s[k].toNat : Int) ≠ 32 by omega)
          by_cases h9 : s[k].toNat = 9
          · have HN := hN true (by rw [Bool.true_and]; exact hv.2 (.inr (.inl h9)))
            have q := eqb_t (show (s[k].toNat : Int) = 9 by omega)
            clear hN hv hn8 h32 h9
            go_wp2_with fail
            exact ⟨⟨k + 1, true, rfl, by go_num, by omega, HN⟩, by simp [intOf]; omega⟩
          · have q9 := eqb_f (show (s[k].toNat : Int) ≠ 9 by omega)
            by_cases h33 : s[k].toNat < 33
            · have HN := hN false (by
                rw [Bool.true_and]
                cases h : valB s[k] with
                | false => rfl
                | true => have := hv.1 h; omega)
              have q : decide ((33 : Int) ≤ (s[k].toNat : Int)) = false := by simp; omega
              clear hN hv hn8 h32 h9
              go_wp2_with fail
              exact ⟨⟨k + 1, false, rfl, by go_num, by omega, HN⟩, by simp [intOf]; omega⟩
            · have q33 : decide ((33 : Int) ≤ (s[k].toNat : Int)) = true := by simp; omega
              by_cases h127 : s[k].toNat = 127
              · have HN := hN false (by
                  rw [Bool.true_and]
                  cases h : valB s[k] with
                  | false => rfl
                  | true => have := hv.1 h; omega)
                have q : ((s[k].toNat : Int) != 127) = false := bneF5 (by omega)
                clear hN hv hn8 h32 h9 h33 h127
                go_wp2_with fail
                exact ⟨⟨k + 1, false, rfl, by go_num, by omega, HN⟩, by simp [intOf]; omega⟩
              · have HN := hN true (by rw [Bool.true_and]; exact hv.2 (by omega))
                have q : ((s[k].toNat : Int) != 127) = true := bneT5 (by omega)
                clear hN hv hn8 h32 h9 h33 h127
                go_wp2_with fail
                exact ⟨⟨k + 1, true, rfl, by go_num, by omega, HN⟩, by simp [intOf]; omega⟩
    · have hkl : k = s.size := by omega
      subst hkl
      have hd : decide ((s.size : Int) < (s.size : Int)) = false := by simp
      have hg : g = F := by
        rw [← HG.out, ← HF.out, List.take_of_length_le (by rw [size_l]; omega)]
      subst hg
      by_cases hcut : s.data.toList.takeWhile tokB = []
      · have hc : cutT s.data.toList = ([], [], 6) := by unfold cutT; rw [if_pos hcut]
        have cC := C4.out
        rw [hc] at cC
        simp only at cC
        have CC := Lib.hid cC
        clear cC hc
        by_cases h0 : s.size = 0
        · have e1 := emp_t h0
          clear hcut h0
          go_wp2_with fail
          (with_reducible refine (C2.out _).mono ?_); rintro e w3 ⟨rfl, hb3⟩
          replace hb3 := hb2.trans (hb3.mono hb2.size)
          go_wp2_with fail
          (with_reducible refine (C3.out _).mono ?_); rintro e w4 ⟨rfl, hb4⟩
          replace hb4 := hb3.trans (hb4.mono hb3.size)
          go_wp2_with fail
          (with_reducible refine (CC.out _).mono ?_); rintro e w5 ⟨rfl, hb5⟩
          replace hb5 := hb4.trans (hb5.mono hb4.size)
          go_wp2_with fail
          go_ret
          exact ⟨rfl, hb5⟩
        · have e1 := emp_f h0
          have hpos : 0 < s.size := by omega
          have hx := extract_one s hpos
          have hnt := cut_none hcut _ (head_at s hpos)
          have cI := fun w => CI.out (bs [s[0]]) w (by rw [bs_size]; simp)
          rw [bs_list, isTok_one, hnt] at cI
          have CI' := Lib.hid cI
          have HX := Lib.hid hx
          clear hcut h0 cI hx hnt
          go_wp2_with fail
          (with_reducible refine (C2.out _).mono ?_); rintro e w3 ⟨rfl, hb3⟩
          replace hb3 := hb2.trans (hb3.mono hb2.size)
          go_wp2_with fail
          (with_reducible refine (C3.out _).mono ?_); rintro e w4 ⟨rfl, hb4⟩
          replace hb4 := hb3.trans (hb4.mono hb3.size)
          go_wp2_with fail
          (with_reducible refine (CC.out _).mono ?_); rintro e w5 ⟨rfl, hb5⟩
          replace hb5 := hb4.trans (hb5.mono hb4.size)
          go_wp2_with fail
          rw [HX.out]
          (with_reducible refine (CI'.out _).mono ?_); rintro e w6 ⟨rfl, hb6⟩
          replace hb6 := hb5.trans (hb6.mono hb5.size)
          go_wp2_with fail
          go_ret
          exact ⟨rfl, hb6⟩
      · have hc : cutT s.data.toList = (s.data.toList.takeWhile tokB, s.data.toList.dropWhile tokB, 0) := by unfold cutT; rw [if_neg hcut]
        have cC := C4.out
        rw [hc] at cC
        simp only at cC
        obtain ⟨a, ha⟩ : ∃ a, bs (s.data.toList.takeWhile tokB) = a := ⟨_, rfl⟩
        obtain ⟨b, hb⟩ : ∃ a, bs (s.data.toList.dropWhile tokB) = a := ⟨_, rfl⟩
        have hal : a.data.toList = s.data.toList.takeWhile tokB := by rw [← ha]; rfl
        have hbl : b.data.toList = s.data.toList.dropWhile tokB := by rw [← hb]; rfl
        rw [ha, hb] at cC
        have CC := Lib.hid cC
        have hab : ((a ++ b).toList == s.toList) = true := by
          rw [Lib.toList_data, Lib.toList_data, append_toList, hal, hbl, List.takeWhile_append_dropWhile, beq_self_eq_true]
        have habs : a.size + b.size = s.size := by
          have := congrArg List.length (List.takeWhile_append_dropWhile (p := tokB) (l := s.data.toList))
          rw [List.length_append, ← hal, ← hbl, size_l, size_l, size_l] at this
          exact this
        have has : a.size ≤ 200 := by omega
        have hbs : b.size ≤ 200 := by omega
        have hta : isTok a.data.toList = true := by
          rw [hal]
          show (!(s.data.toList.takeWhile tokB).isEmpty && (s.data.toList.takeWhile tokB).all tokB) = true
          rw [Bool.and_eq_true]
          exact ⟨by simpa using hcut, List.all_eq_true.2 (tw_all _ _)⟩
        have cA := fun w => CI.out a w (by omega)
        rw [hta] at cA
        have CA := Lib.hid cA
        clear cC hc cA ha hb hal hta hcut habs
        by_cases h0 : b.size = 0
        · have e1 := emp_t h0
          clear h0 hbl
          go_wp2_with fail
          (with_reducible refine (C2.out _).mono ?_); rintro e w3 ⟨rfl, hb3⟩
          replace hb3 := hb2.trans (hb3.mono hb2.size)
          go_wp2_with fail
          (with_reducible refine (C3.out _).mono ?_); rintro e w4 ⟨rfl, hb4⟩
          replace hb4 := hb3.trans (hb4.mono hb3.size)
          go_wp2_with fail
          (with_reducible refine (CC.out _).mono ?_); rintro e w5 ⟨rfl, hb5⟩
          replace hb5 := hb4.trans (hb5.mono hb4.size)
          go_wp2_with fail
          (with_reducible refine (CA.out _).mono ?_); rintro e w6 ⟨rfl, hb6⟩
          replace hb6 := hb5.trans (hb6.mono hb5.size)
          go_wp2_with fail
          go_ret
          exact ⟨rfl, hb6⟩
        · have e1 := emp_f h0
          have hpos : 0 < b.size := by omega
          have hx := extract_one b hpos
          have hnt : tokB b[0] = false := drop_head (l := s.data.toList) b[0] (by rw [← hbl]; exact head_at b hpos)
          have cI := fun w => CI.out (bs [b[0]]) w (by rw [bs_size]; simp)
          rw [bs_list, isTok_one, hnt] at cI
          have CI' := Lib.hid cI
          have HX := Lib.hid hx
          clear h0 cI hx hnt hbl
          go_wp2_with fail
          (with_reducible refine (C2.out _).mono ?_); rintro e w3 ⟨rfl, hb3⟩
          replace hb3 := hb2.trans (hb3.mono hb2.size)
          go_wp2_with fail
          (with_reducible refine (C3.out _).mono ?_); rintro e w4 ⟨rfl, hb4⟩
          replace hb4 := hb3.trans (hb4.mono hb3.size)
          go_wp2_with fail
          (with_reducible refine (CC.out _).mono ?_); rintro e w5 ⟨rfl, hb5⟩
          replace hb5 := hb4.trans (hb5.mono hb4.size)
          go_wp2_with fail
          (with_reducible refine (CA.out _).mono ?_); rintro e w6 ⟨rfl, hb6⟩
          replace hb6 := hb5.trans (hb6.mono hb5.size)
          go_wp2_with fail
          rw [HX.out]
          (with_reducible refine (CI'.out _).mono ?_); rintro e w7 ⟨rfl, hb7⟩
          replace hb7 := hb6.trans (hb7.mono hb6.size)
          go_wp2_with fail
          go_ret
          exact ⟨rfl, hb7⟩

theorem TokenTrims_true (s : ByteArray) (w : World) (hs : s.size ≤ 9223372036854775807) :
    Calls Tryd.prog 8 #[.string s] w fun e w' => e = .returned (.bool true) ∧ Below w.heap.size w w' := by
  by_cases h1 : s.size ≤ 200
  · exact TokenTrims_small s w h1
  · have d1 : decide ((200 : Int) < (s.size : Int)) = true := by simp; omega
    go_enter Tryd.func8, Tryd.ntmps8
    go_wp2_with fail
    (with_reducible refine (TokenKnown_true _).mono ?_); rintro e w1 ⟨rfl, hb1⟩
    go_wp2_with fail
    go_ret
    exact ⟨rfl, hb1⟩
end Go.Proofs.YtepemdmjbfoiaaaDoor
