/-
  The reader of responses: the first line.
-/
import Derived.Test.YthhlnpfcpgfcfaaGreatDoorRs4
import Derived.Test.YthhlnpfcpgfcfaaGreatDoorRs3
import Derived.Deep.RegionHeld3
import Derived.Laws.Rows
namespace Go.Proofs.YthhlnpfcpgfcfaaGreatDoor
open Go.RowKit

theorem Wrel {B : Nat} {W0 w w' : World} {g : Nat} (hb : Below B W0 w) (hg : w.grownBy w' (some g)) (hB : B ≤ w.heap.size) (h : B ≤ g) : Below B W0 w' := hb.grown hg hB (fun k e => by cases e; exact h)
/-- what a method of the reader leaves -/
def RdPost (g : Nat) (cs : Array Value) (v : Value) (w : World) (e : Ending) (w' : World) : Prop := e = .returned v ∧ Blk w' g 101 cs ∧ w.grownBy w' (some g)
theorem codeP_at {l : List UInt8} (k : Nat) (hk : k < 15) (h : ∀ i, i < k → l ≠ firstR (codeN i : Nat)) (he : l = firstR (codeN k : Nat)) : codeP l = some (codeN k : Int) := by
  subst he
  have hall : ∀ k : Fin 15, codeP (firstR (codeN k.val : Nat)) = some (codeN k.val : Int) := by decide +kernel
  exact hall ⟨k, hk⟩
theorem codeP_no {l : List UInt8} (h : ∀ i, i < 15 → l ≠ firstR (codeN i : Nat)) : codeP l = none := by
  unfold codeP
  rw [Option.map_eq_none_iff, List.find?_eq_none]
  intro x hx
  obtain ⟨i, hi, e1, _⟩ := codes_at hx
  have := h i hi
  rw [e1] at this
  simpa using this
theorem codeN_le (i : Nat) (hi : i < 15) : codeN i ≤ 9999 := by
  have := (show ∀ i : Fin 15, codeN i.val ≤ 9999 by decide +kernel) ⟨i, hi⟩
  exact this
theorem codeS_len (i : Nat) (hi : i < 15) : (codeS i).length ≤ 100 := by
  have := (show ∀ i : Fin 15, (codeS i.val).length ≤ 100 by decide +kernel) ⟨i, hi⟩
  exact this
theorem first_at (i : Nat) (hi : i < 15) : firstR (codeN i : Nat) = [72, 84, 84, 80, 47, 49, 46, 49, 32] ++ Lib.decDigits (codeN i) ++ [32] ++ codeS i := by
  unfold firstR
  have := reason_at ⟨i, hi⟩
  simp only at this
  rw [this]; simp
set_option maxRecDepth 100000 in
set_option maxHeartbeats 8000000 in
theorem pCode (s : List UInt8) (a : Nat) (code : Int) (v : Value) (body : ByteArray) (close head : Bool) (g : Nat) (w W0 : World) (hs : s.length ≤ 1000000) (ha : a ≤ s.length) (hB : Blk w g 101 (rC s a code v body close head)) (ht : TabR W0) (hm : MaxL W0) (h0 : Below W0.heap.size W0 w) :
    Calls Tryz.prog 59 #[.pointer (some ⟨g, 0, none⟩)] w (match lineP (s.drop a) with
      | none => RdPost g (rC s a code v body close head) (.bool false) w
      | some x => match codeP x.1 with
        | none => RdPost g (rC s a code v body close head) (.bool false) w
        | some c => RdPost g (rC s (a + x.1.length + 2) c v body close head) (.bool true) w) := by
  have cN := pNext s a g w hs ha (hB.cell 0) (hB.cell 1) (hm.below h0)
  have HB := Lib.hid hB
  have HT := Lib.hid ht
  have H0 := Lib.hid h0
  have CN := Lib.hid cN
  clear hB ht h0 cN hm
  rcases lineP_cases (s.drop a) with ⟨h1, h2⟩ | ⟨l, r, h1, h2, h3⟩
  · rw [h1] at CN ⊢
    clear h1 h2
    go_enter Tryz.func59, Tryz.ntmps59
    go_wp2_with fail
    (with_reducible refine (CN.out).mono ?_); rintro e w1 ⟨rfl, g1⟩
    go_wp2_with fail
    go_ret
    exact ⟨rfl, HB.out.below g1 HB.out.lt, Lib.grownBy_below (World.grownBy.refl w (some g)) g1⟩
  · rw [h1] at CN ⊢
    have hlen : a + l.length + 2 ≤ s.length := by
      have := congrArg List.length h3
      rw [List.length_drop] at this
      simp only [List.length_append, List.length_cons] at this
      omega
    simp only at CN ⊢
    clear h1 h2 h3
    obtain ⟨PP, hPP⟩ : ∃ PP : Ending → World → Prop, (match codeP l with
        | none => RdPost g (rC s a code v body close head) (.bool false) w
        | some c => RdPost g (rC s (a + l.length + 2) c v body close head) (.bool true) w) = PP := ⟨_, rfl⟩
    rw [hPP]
    have HPP := Lib.hid hPP
    clear hPP
    go_enter Tryz.func59, Tryz.ntmps59
    go_wp2_with fail
    (with_reducible refine (CN.out).mono ?_); rintro e w1 ⟨rfl, g1⟩
    have HG1 := Lib.hid (And.intro (HB.out.below g1 HB.out.lt) (Lib.grownBy_below (World.grownBy.refl w (some g)) g1))
    have hW1 : Below W0.heap.size W0 w1 := H0.out.trans (g1.mono H0.out.size)
    obtain ⟨tt, fr, hcc⟩ := HT.out.codes.below hW1
    have H1 := Lib.hid hW1
    have HC := Lib.hid hcc
    clear g1 hcc hW1 CN
    go_wp2_with (refine wpList_load_row rfl 106 _ rfl 0 rfl tt _ fr _ HC.out Tryz.underlying106 rfl codes_size ?_)
    go_loopw [17] (fun i wr => ∃ k : Nat, i = .int .i64 k ∧ k ≤ 15 ∧ Hid (∀ j, j < k → l ≠ firstR (codeN j : Nat)) ∧ Hid (Below w1.heap.size w1 wr)) (fun i _ => 15 - (intOf i).toNat)
    case atStart => exact ⟨0, rfl, by omega, hide (fun j hj => absurd hj (by omega)), hide (Below.refl _ _)⟩
    case round =>
      obtain ⟨k, rfl, hk, hA, hBw⟩ := hrel
      rename World => wr
      have HGr := Lib.hid (And.intro (HG1.out.1.below hBw.out HG1.out.1.lt) (Lib.grownBy_below HG1.out.2 hBw.out))
      have H2 := Lib.hid (H1.out.trans (hBw.out.mono H1.out.size))
      by_cases hlt : k < 15
      · have hidx := codes_idx wr k hlt
        have hle := codeN_le k hlt
        have hsl := codeS_len k hlt
        have hft := first_at k hlt
        obtain ⟨m, hm⟩ : ∃ m, codeN k = m := ⟨_, rfl⟩
        obtain ⟨rs, hrs⟩ : ∃ rs, codeS k = rs := ⟨_, rfl⟩
        rw [hm, hrs] at hidx
        rw [hm] at hle
        rw [hrs] at hsl
        have hdl := dec_len m hle
        obtain ⟨D, hD⟩ : ∃ D, bs (Lib.decDigits m) = D := ⟨_, rfl⟩
        obtain ⟨R, hR⟩ : ∃ R, bs rs = R := ⟨_, rfl⟩
        have hDs : D.size = (Lib.decDigits m).length := by rw [← hD, bs_size]
        have hRs : R.size = rs.length := by rw [← hR, bs_size]
        have hcat : (⟨#[72, 84, 84, 80, 47, 49, 46, 49, 32]⟩ : ByteArray) ++ D ++ ⟨#[32]⟩ ++ R = bs (firstR (m : Nat)) := by
          rw [← hm, hft, hm, hrs, ← hD, ← hR, show (⟨#[72, 84, 84, 80, 47, 49, 46, 49, 32]⟩ : ByteArray) = bs [72, 84, 84, 80, 47, 49, 46, 49, 32] from rfl, show (⟨#[32]⟩ : ByteArray) = bs [32] from rfl, bs_app, bs_app, bs_app]
        rw [hR] at hidx
        have g2 : Below wr.heap.size wr (wr.alloc (.cells #[.int .i64 (m : Nat), .string R] 105)) := (Below.refl _ _).alloc (Nat.le_refl _) _
        have k2 := Blk.new wr 105 #[.int .i64 (m : Nat), .string R]
        have cI : ∀ X, Hid (Below (wr.heap.size + 1) (wr.alloc (.cells #[.int .i64 (m : Nat), .string R] 105)) X) → Calls Tryz.prog 33 #[.int .i64 (m : Nat)] X fun e w' => e = .returned (.string D) ∧ Hid (Below (wr.heap.size + 1) (wr.alloc (.cells #[.int .i64 (m : Nat), .string R] 105)) w') ∧ w'.cell? ⟨wr.heap.size, 0, none⟩ = some (.int .i64 (m : Nat)) ∧ w'.cell? ⟨wr.heap.size, 1, none⟩ = some (.string R) := by
          intro X hX
          have hb2 : Below w1.heap.size w1 X := (hBw.out.trans (g2.mono hBw.out.size)).trans (hX.out.mono (by have := hBw.out.size; omega))
          refine (Itoa_any m (by omega) X (HT.out.tabs.below (H1.out.trans (hb2.mono H1.out.size)))).mono ?_
          rintro e w' ⟨rfl, hb⟩
          have hb' := hX.out.trans (hb.mono (by have := hX.out.size; simp at this; omega))
          have kk := k2.below hb' (by omega)
          exact ⟨by rw [← hD]; rfl, hide hb', kk.cell 0, kk.cell 1⟩
        have CI := Lib.hid cI
        have G2 := Lib.hid g2
        have HF := Lib.hid hm
        have hd0 : Hid (Below (wr.heap.size + 1) (wr.alloc (.cells #[.int .i64 (m : Nat), .string R] 105)) (wr.alloc (.cells #[.int .i64 (m : Nat), .string R] 105)).drew) := hide (Below.drew (Below.refl _ _))
        have s1 : ¬ 9223372036854775798 < D.size := by omega
        have s2 : ¬ 9223372036854775807 < 9 + D.size := by omega
        have s3 : ¬ 9223372036854775806 < 9 + D.size := by omega
        have s4 : ¬ 9223372036854775807 < 9 + D.size + 1 := by omega
        have s5 : ¬ 9223372036854775807 < 9 + D.size + 1 + R.size := by omega
        clear cI g2 k2 hm hrs hdl hD hR hDs hRs hft hle hsl
        by_cases he : l = firstR (m : Nat)
        · have e1 : ((bs l).toList == ((⟨#[72, 84, 84, 80, 47, 49, 46, 49, 32]⟩ : ByteArray) ++ D ++ ⟨#[32]⟩ ++ R).toList) = true := by rw [hcat]; exact eq_texts he
          have hcp := codeP_at k hlt hA.out (by rw [HF.out]; exact he)
          rw [HF.out] at hcp
          have HCP := Lib.hid hcp
          clear hcp he hcat
          go_wp2_with fail
          go_region_held3 (fun w' => w'.cell? ⟨wr.heap.size, 0, none⟩ = some (.int .i64 (m : Nat)) ∧ w'.cell? ⟨wr.heap.size, 1, none⟩ = some (.string R)) (go_keep) (first
            | (go_at_call 33; (with_reducible refine (CI.out _ (by assumption)).mono ?_); rintro e w5 ⟨rfl, hb5, k5, k6⟩))
          have hb6 : Below wr.heap.size wr w5 := G2.out.trans (hb5.out.mono (by omega))
          have kg := HGr.out.1.below hb6 HGr.out.1.lt
          have gg := Lib.grownBy_below HGr.out.2 hb6
          have c2 : w5.cell? ⟨g, 2, none⟩ = some (.int .i64 code) := kg.cell 2
          have f2 := kg.frozen 2
          have kg2 := kg.set_ 2 (.int .i64 (m : Nat))
          have e2 : (rC s a code v body close head).setIfInBounds 2 (.int .i64 (m : Nat)) = rC s a (m : Nat) v body close head := by simp [rC]
          rw [e2] at kg2
          have gg2 := Lib.grownBy_setB gg 2 (.int .i64 (m : Nat))
          have CP := Lib.hid (pPass s a (m : Nat) v body close head l g _ hs hlen kg2)
          have GG := Lib.hid gg2
          rw [HCP.out] at HPP
          clear kg gg kg2 gg2 e2 hb6 HCP CI hd0
          go_wp2_with fail
          (with_reducible refine (CP.out).mono ?_); rintro e w7 ⟨rfl, k7, g7⟩
          go_wp2_with fail
          try go_ret
          rw [← HPP.out]
          exact ⟨rfl, k7, Lib.grownBy_trans GG.out g7⟩
        · have e1 : ((bs l).toList == ((⟨#[72, 84, 84, 80, 47, 49, 46, 49, 32]⟩ : ByteArray) ++ D ++ ⟨#[32]⟩ ++ R).toList) = false := by rw [hcat]; exact ne_texts he
          have HA := Lib.hid (show ∀ j, j < k + 1 → l ≠ firstR (codeN j : Nat) from fun j hj => by
            rcases Nat.lt_or_ge j k with h | h
            · exact hA.out j h
            · obtain rfl : j = k := by omega
              rw [HF.out]; exact he)
          clear he hcat
          go_wp2_with fail
          go_region_held3 (fun w' => w'.cell? ⟨wr.heap.size, 0, none⟩ = some (.int .i64 (m : Nat)) ∧ w'.cell? ⟨wr.heap.size, 1, none⟩ = some (.string R)) (go_keep) (first
            | (go_at_call 33; (with_reducible refine (CI.out _ (by assumption)).mono ?_); rintro e w5 ⟨rfl, hb5, k5, k6⟩))
          have HB6 := Lib.hid (hBw.out.trans ((G2.out.trans (hb5.out.mono (by omega))).mono hBw.out.size))
          clear CI hd0 k5 k6
          go_wp2_with fail
          go_roundw
          case rel => exact ⟨k + 1, by go_num, by omega, HA, HB6⟩
          case measure => simp [intOf]; omega
      · obtain rfl : k = 15 := by omega
        have hcp := codeP_no hA.out
        rw [hcp] at HPP
        clear hcp hA
        have hd : decide (((15 : Nat) : Int) < 15) = false := by decide
        go_wp2_with fail
        try go_ret
        rw [← HPP.out]
        exact ⟨rfl, HGr.out.1, HGr.out.2⟩
end Go.Proofs.YthhlnpfcpgfcfaaGreatDoor
