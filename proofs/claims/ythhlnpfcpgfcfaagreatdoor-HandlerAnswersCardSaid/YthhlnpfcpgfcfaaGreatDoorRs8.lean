/-
  The reader of responses: the end of a head; respond.Parse.
-/
import Derived.Test.YthhlnpfcpgfcfaaGreatDoorRs7
namespace Go.Proofs.YthhlnpfcpgfcfaaGreatDoor
open Go.RowKit

theorem len_line {s l r : List UInt8} {a : Nat} (h3 : s.drop a = l ++ 13 :: 10 :: r) : a + l.length + 2 ≤ s.length ∧ s.drop (a + l.length + 2) = r := by
  refine ⟨?_, ?_⟩
  · have := congrArg List.length h3
    rw [List.length_drop] at this
    simp only [List.length_append, List.length_cons] at this
    omega
  · rw [show a + l.length + 2 = a + (l.length + 2) by omega, ← List.drop_drop, h3, show l.length + 2 = (l ++ [13, 10]).length by simp, show l ++ 13 :: 10 :: r = (l ++ [13, 10]) ++ r by simp, List.drop_left]
theorem bs_toList (l : List UInt8) : (bs l).toList = l := by rw [Lib.toList_data, bs_list]
theorem lit_t {l m : List UInt8} (h : l = m) : ((bs l).toList == m) = true := by rw [bs_toList, h]; simp
theorem lit_f {l m : List UInt8} (h : l ≠ m) : ((bs l).toList == m) = false := by rw [bs_toList, beq_eq_false_iff_ne]; exact h
theorem emp_bs {l : List UInt8} (h : l = []) : (bs l).toList.isEmpty = true ∧ (bs l).toList = [] := by rw [bs_toList, h]; exact ⟨rfl, rfl⟩
theorem nemp_bs {l : List UInt8} (h : l ≠ []) : (bs l).toList.isEmpty = false ∧ ¬ (bs l).toList = [] := by
  rw [bs_toList]
  exact ⟨by rw [List.isEmpty_eq_false_iff]; exact h, h⟩
theorem MaxL.grown {s : List UInt8} {a : Nat} {code : Int} {v : Value} {body : ByteArray} {close head : Bool} {g : Nat} {w w' : World} (h : MaxL w) (hB : Blk w g 101 (rC s a code v body close head)) (hg : w.grownBy w' (some g)) : MaxL w' := by
  obtain ⟨m, hm⟩ := h
  refine ⟨m, hg.cell hm fun e => ?_⟩
  injection e with e
  have h0 : w.cell? ⟨g, 0, none⟩ = some (.string (bs s)) := hB.cell 0
  rw [← e] at h0
  rw [h0] at hm
  cases hm
/-- what the end of a head leaves: how far the reader has come, is the connection closed, was it an end -/
def endR (s : List UInt8) (a : Nat) (close : Bool) : Nat × Bool × Bool :=
  match lineP (s.drop a) with
  | none => (a, close, false)
  | some x =>
    if x.1 = closeR then
      match lineP x.2 with
      | none => (a + x.1.length + 2, true, false)
      | some y => if y.1 = [] then (a + x.1.length + 2 + 2, true, true) else (a + x.1.length + 2, true, false)
    else if x.1 = [] then (a + 2, close, true) else (a, close, false)
set_option maxRecDepth 100000 in
set_option maxHeartbeats 8000000 in
theorem pEndR (s : List UInt8) (a : Nat) (code : Int) (v : Value) (body : ByteArray) (close head : Bool) (g : Nat) (w : World) (hs : s.length ≤ 1000000) (ha : a ≤ s.length) (hB : Blk w g 101 (rC s a code v body close head)) (hm : MaxL w) :
    Calls Tryz.prog 62 #[.pointer (some ⟨g, 0, none⟩)] w (RdPost g (rC s (endR s a close).1 code v body (endR s a close).2.1 head) (.bool (endR s a close).2.2) w) := by
  have cN := pNext s a g w hs ha (hB.cell 0) (hB.cell 1) hm
  have HB := Lib.hid hB
  have HM := Lib.hid hm
  have CN := Lib.hid cN
  clear hB hm cN
  rcases lineP_cases (s.drop a) with ⟨h1, h2⟩ | ⟨l, r, h1, h2, h3⟩
  · have eE : endR s a close = (a, close, false) := by unfold endR; rw [h1]
    rw [eE]
    rw [h1] at CN
    simp only at CN ⊢
    clear h1 h2 eE
    go_enter Tryz.func62, Tryz.ntmps62
    go_wp2_with fail
    (with_reducible refine (CN.out).mono ?_); rintro e w1 ⟨rfl, g1⟩
    have HG1 := Lib.hid (And.intro (HB.out.below g1 HB.out.lt) (Lib.grownBy_below (World.grownBy.refl w (some g)) g1))
    clear g1 CN
    go_wp2_with fail
    go_ret
    exact ⟨rfl, HG1.out.1, HG1.out.2⟩
  · rw [h1] at CN
    simp only at CN
    obtain ⟨hlen, hdr⟩ := len_line h3
    by_cases hc : l = closeR
    · have e1 : ((bs l).toList == [67, 111, 110, 110, 101, 99, 116, 105, 111, 110, 58, 32, 99, 108, 111, 115, 101]) = true := lit_t hc
      have hl17 : l.length = 17 := by rw [hc]; rfl
      rcases lineP_cases r with ⟨q1, q2⟩ | ⟨l2, r2, q1, q2, q3⟩
      · have eE : endR s a close = (a + l.length + 2, true, false) := by unfold endR; rw [h1]; simp only; rw [if_pos hc, q1]
        rw [eE]
        simp only
        have HD := Lib.hid (show lineP (s.drop (a + l.length + 2)) = none by rw [hdr]; exact q1)
        clear h1 h2 h3 eE q1 q2 hc
        go_enter Tryz.func62, Tryz.ntmps62
        go_wp2_with fail
        (with_reducible refine (CN.out).mono ?_); rintro e w1 ⟨rfl, g1⟩
        have k1 := HB.out.below g1 HB.out.lt
        have kg := k1.set_ 5 (.bool true)
        have e2 : (rC s a code v body close head).setIfInBounds 5 (.bool true) = rC s a code v body true head := by simp [rC]
        rw [e2] at kg
        have gg := Lib.grownBy_setB (Lib.grownBy_below (World.grownBy.refl w (some g)) g1) 5 (.bool true)
        have c5 : w1.cell? ⟨g, 5, none⟩ = some (.bool close) := k1.cell 5
        have f5 := k1.frozen 5
        have CP := Lib.hid (pPass s a code v body true head l g _ hs hlen kg)
        have GG := Lib.hid gg
        have H1 := Lib.hid (HM.out.below g1)
        have KB := Lib.hid k1
        clear g1 CN k1 kg e2 gg
        go_wp2_with fail
        (with_reducible refine (CP.out).mono ?_); rintro e w3 ⟨rfl, k3, g3⟩
        have hm3 : MaxL w3 := H1.out.grown KB.out (Lib.grownBy_trans (Lib.grownBy_setB (World.grownBy.refl w1 (some g)) 5 _) g3)
        have cN2 := pNext s (a + l.length + 2) g w3 hs hlen (k3.cell 0) (k3.cell 1) hm3
        rw [HD.out] at cN2
        simp only at cN2
        have CN2 := Lib.hid cN2
        have K3 := Lib.hid (And.intro k3 (Lib.grownBy_trans GG.out g3))
        clear k3 g3 cN2 hm3 CP
        go_wp2_with fail
        (with_reducible refine (CN2.out).mono ?_); rintro e w4 ⟨rfl, g4⟩
        have K4 := Lib.hid (And.intro (K3.out.1.below g4 K3.out.1.lt) (Lib.grownBy_below K3.out.2 g4))
        clear g4
        go_wp2_with fail
        go_ret
        exact ⟨rfl, K4.out.1, K4.out.2⟩
      · by_cases he : l2 = []
        · have eE : endR s a close = (a + l.length + 2 + 2, true, true) := by unfold endR; rw [h1]; simp only; rw [if_pos hc, q1]; simp only; rw [if_pos he]
          rw [eE]
          simp only
          have HD := Lib.hid (show lineP (s.drop (a + l.length + 2)) = some (l2, r2) by rw [hdr]; exact q1)
          have HL0 := Lib.hid (show l2.length = 0 by rw [he]; rfl)
          obtain ⟨m1, m2⟩ := emp_bs he
          have hl2 := (len_line (show s.drop (a + l.length + 2) = l2 ++ 13 :: 10 :: r2 by rw [hdr]; exact q3)).1
          clear h1 h2 h3 eE q1 q2 hc q3 he
          go_enter Tryz.func62, Tryz.ntmps62
          go_wp2_with fail
          (with_reducible refine (CN.out).mono ?_); rintro e w1 ⟨rfl, g1⟩
          have k1 := HB.out.below g1 HB.out.lt
          have kg := k1.set_ 5 (.bool true)
          have e2 : (rC s a code v body close head).setIfInBounds 5 (.bool true) = rC s a code v body true head := by simp [rC]
          rw [e2] at kg
          have gg := Lib.grownBy_setB (Lib.grownBy_below (World.grownBy.refl w (some g)) g1) 5 (.bool true)
          have c5 : w1.cell? ⟨g, 5, none⟩ = some (.bool close) := k1.cell 5
          have f5 := k1.frozen 5
          have CP := Lib.hid (pPass s a code v body true head l g _ hs hlen kg)
          have GG := Lib.hid gg
          have H1 := Lib.hid (HM.out.below g1)
          have KB := Lib.hid k1
          clear g1 CN k1 kg e2 gg
          go_wp2_with fail
          (with_reducible refine (CP.out).mono ?_); rintro e w3 ⟨rfl, k3, g3⟩
          have hm3 : MaxL w3 := H1.out.grown KB.out (Lib.grownBy_trans (Lib.grownBy_setB (World.grownBy.refl w1 (some g)) 5 _) g3)
          have cN2 := pNext s (a + l.length + 2) g w3 hs hlen (k3.cell 0) (k3.cell 1) hm3
          rw [HD.out] at cN2
          simp only at cN2
          have CN2 := Lib.hid cN2
          have K3 := Lib.hid (And.intro k3 (Lib.grownBy_trans GG.out g3))
          clear k3 g3 cN2 hm3 CP
          go_wp2_with fail
          (with_reducible refine (CN2.out).mono ?_); rintro e w4 ⟨rfl, g4⟩
          have K4 := Lib.hid (And.intro (K3.out.1.below g4 K3.out.1.lt) (Lib.grownBy_below K3.out.2 g4))
          clear g4
          have CP2 := Lib.hid (pPass s (a + l.length + 2) code v body true head l2 g _ hs hl2 K4.out.1)
          go_wp2_with fail
          (with_reducible refine (CP2.out).mono ?_); rintro e w7 ⟨rfl, k7, g7⟩
          go_wp2_with fail
          go_ret
          exact ⟨rfl, (by rw [HL0.out] at k7; exact k7), Lib.grownBy_trans K4.out.2 g7⟩
        · have eE : endR s a close = (a + l.length + 2, true, false) := by unfold endR; rw [h1]; simp only; rw [if_pos hc, q1]; simp only; rw [if_neg he]
          rw [eE]
          simp only
          have HD := Lib.hid (show lineP (s.drop (a + l.length + 2)) = some (l2, r2) by rw [hdr]; exact q1)
          obtain ⟨m1, m2⟩ := nemp_bs he
          clear h1 h2 h3 eE q1 q2 hc q3 he
          go_enter Tryz.func62, Tryz.ntmps62
          go_wp2_with fail
          (with_reducible refine (CN.out).mono ?_); rintro e w1 ⟨rfl, g1⟩
          have k1 := HB.out.below g1 HB.out.lt
          have kg := k1.set_ 5 (.bool true)
          have e2 : (rC s a code v body close head).setIfInBounds 5 (.bool true) = rC s a code v body true head := by simp [rC]
          rw [e2] at kg
          have gg := Lib.grownBy_setB (Lib.grownBy_below (World.grownBy.refl w (some g)) g1) 5 (.bool true)
          have c5 : w1.cell? ⟨g, 5, none⟩ = some (.bool close) := k1.cell 5
          have f5 := k1.frozen 5
          have CP := Lib.hid (pPass s a code v body true head l g _ hs hlen kg)
          have GG := Lib.hid gg
          have H1 := Lib.hid (HM.out.below g1)
          have KB := Lib.hid k1
          clear g1 CN k1 kg e2 gg
          go_wp2_with fail
          (with_reducible refine (CP.out).mono ?_); rintro e w3 ⟨rfl, k3, g3⟩
          have hm3 : MaxL w3 := H1.out.grown KB.out (Lib.grownBy_trans (Lib.grownBy_setB (World.grownBy.refl w1 (some g)) 5 _) g3)
          have cN2 := pNext s (a + l.length + 2) g w3 hs hlen (k3.cell 0) (k3.cell 1) hm3
          rw [HD.out] at cN2
          simp only at cN2
          have CN2 := Lib.hid cN2
          have K3 := Lib.hid (And.intro k3 (Lib.grownBy_trans GG.out g3))
          clear k3 g3 cN2 hm3 CP
          go_wp2_with fail
          (with_reducible refine (CN2.out).mono ?_); rintro e w4 ⟨rfl, g4⟩
          have K4 := Lib.hid (And.intro (K3.out.1.below g4 K3.out.1.lt) (Lib.grownBy_below K3.out.2 g4))
          clear g4
          go_wp2_with fail
          go_ret
          exact ⟨rfl, K4.out.1, K4.out.2⟩
    · have e1 : ((bs l).toList == [67, 111, 110, 110, 101, 99, 116, 105, 111, 110, 58, 32, 99, 108, 111, 115, 101]) = false := lit_f hc
      by_cases he : l = []
      · have eE : endR s a close = (a + 2, close, true) := by unfold endR; rw [h1]; simp only; rw [if_neg hc, if_pos he]
        rw [eE]
        simp only
        obtain ⟨m1, m2⟩ := emp_bs he
        have HL0 := Lib.hid (show l.length = 0 by rw [he]; rfl)
        clear h1 h2 h3 eE hc he hdr
        go_enter Tryz.func62, Tryz.ntmps62
        go_wp2_with fail
        (with_reducible refine (CN.out).mono ?_); rintro e w1 ⟨rfl, g1⟩
        have K4 := Lib.hid (And.intro (HB.out.below g1 HB.out.lt) (Lib.grownBy_below (World.grownBy.refl w (some g)) g1))
        have CP := Lib.hid (pPass s a code v body close head l g _ hs hlen K4.out.1)
        clear g1 CN
        go_wp2_with fail
        (with_reducible refine (CP.out).mono ?_); rintro e w7 ⟨rfl, k7, g7⟩
        go_wp2_with fail
        go_ret
        exact ⟨rfl, (by rw [HL0.out] at k7; exact k7), Lib.grownBy_trans K4.out.2 g7⟩
      · have eE : endR s a close = (a, close, false) := by unfold endR; rw [h1]; simp only; rw [if_neg hc, if_neg he]
        rw [eE]
        simp only
        obtain ⟨m1, m2⟩ := nemp_bs he
        clear h1 h2 h3 eE hc he hdr
        go_enter Tryz.func62, Tryz.ntmps62
        go_wp2_with fail
        (with_reducible refine (CN.out).mono ?_); rintro e w1 ⟨rfl, g1⟩
        have K4 := Lib.hid (And.intro (HB.out.below g1 HB.out.lt) (Lib.grownBy_below (World.grownBy.refl w (some g)) g1))
        clear g1 CN
        go_wp2_with fail
        go_ret
        exact ⟨rfl, K4.out.1, K4.out.2⟩
end Go.Proofs.YthhlnpfcpgfcfaaGreatDoor
