/-
  FieldLooks, the law.
-/
import Derived.Test.YtepemdmjbfoiaaaDoorFd9
namespace Go.Proofs.YtepemdmjbfoiaaaDoor
open Go.RowKit

theorem smallF_ok {l : List Fld} (h : ∀ f ∈ l, smallF f) : fldsOk l := fun f hf => by
  obtain ⟨h1, h2⟩ := h f hf
  exact ⟨by omega, by omega⟩

set_option maxRecDepth 100000 in
set_option maxHeartbeats 16000000 in
theorem FieldLooks_true (A : Option Addr) (n c : Nat) (l : List Fld) (nm : ByteArray) (w : World) (hn : n ≤ 9223372036854775807) (hr : Reads w w.heap.size 2 A n (fldsC l)) (hx : ∀ f ∈ l, f.1.length ≤ 9223372036854775807 ∧ f.2.length ≤ 9223372036854775807) (hnm : nm.size ≤ 9223372036854775807) :
    Calls Tryd.prog 13 #[.slice A n c, .string nm] w fun e w' => e = .returned (.bool true) ∧ Below w.heap.size w w' := by
  obtain rfl := hr.flen
  have CLG := Lib.hid (large_any A l.length c l w hr hn hx)
  have HR := Lib.hid hr
  have AW := Lib.hid awake06
  clear hr hx
  by_cases hm : nm.size ≤ 100
  · have d1 : decide ((100 : Int) < (nm.size : Int)) = false := by simp; omega
    go_enter Tryd.func13, Tryd.ntmps13
    go_wp2_with fail
    (with_reducible refine (CLG.out).mono ?_); rintro e w1 ⟨r, rfl, rfl, hsm⟩
    cases r with
    | true =>
      clear hsm
      go_wp2_with fail
      (with_reducible refine (AW.out _).mono ?_); rintro e w1 ⟨rfl, hb1⟩
      go_wp2_with fail
      go_ret
      exact ⟨rfl, hb1⟩
    | false =>
      obtain ⟨hl40, hsm⟩ := hsm rfl
      have hok := smallF_ok hsm
      have hn2 : l.length ≤ 100000 := by omega
      have hm2 : nm.size ≤ 100000 := by omega
      have COW := Lib.hid (OwnFields_any A l.length c l w HR.out (by omega))
      have c1 := fun B d w hr => pCheckF B l.length d l w hr (by omega) hok
      have c1' := fun w hr => rCheckF A l.length c l w hr (by omega) hok
      have c2 := fun B d w hr => pGet B l.length d l nm w hr hn2 hok hm2
      have c2' := fun w hr => rGet A l.length c l nm w hr hn2 hok hm2
      have c3 := fun B d w hr => pAll B l.length d l nm w hr hn2 hok hm2
      have c3' := fun w hr => rAll A l.length c l nm w hr hn2 hok hm2
      have c4 := fun B d w hr => pCombine B l.length d l nm w hr hn2 hok hm2
      have c4' := fun w hr => rCombine A l.length c l nm w hr hn2 hok hm2
      unfold AllPost at c3 c3'
      have hVl := allL_len nm.data.toList l
      obtain ⟨⟨E0, I0⟩, hE0⟩ : ∃ x, checkL l = x := ⟨_, rfl⟩
      rw [hE0] at c1 c1'
      obtain ⟨⟨G, gb⟩, hG⟩ : ∃ x, getT (allL nm.data.toList l) = x := ⟨_, rfl⟩
      rw [hG] at c2 c2'
      obtain ⟨⟨K, kb⟩, hK⟩ : ∃ x, comT (allL nm.data.toList l) = x := ⟨_, rfl⟩
      rw [hK] at c4 c4'
      obtain ⟨V, hV⟩ : ∃ V, allL nm.data.toList l = V := ⟨_, rfl⟩
      obtain ⟨E, hE⟩ : ∃ E, askL l [nm.data.toList] = E := ⟨_, rfl⟩
      rw [hV] at c3 c3' hVl
      rw [hE] at c2 c2' c3 c3' c4 c4'
      simp only at c1 c1' c2 c2' c4 c4'
      have C1 := Lib.hid c1
      have C1' := Lib.hid c1'
      have C2 := Lib.hid c2
      have C2' := Lib.hid c2'
      have C3 := Lib.hid c3
      have C3' := Lib.hid c3'
      have C4 := Lib.hid c4
      have C4' := Lib.hid c4'
      have HL := Lib.hid (And.intro hl40 hVl)
      clear c1 c1' c2 c2' c3 c3' c4 c4' hE0 hG hK hV hE hsm hok hl40 hVl CLG
      go_wp2_with fail
      (with_reducible refine (COW.out).mono ?_); rintro e w1 ⟨B, d, rfl, hd, hrB, g1⟩
      have HB1 := Lib.hid hrB
      clear hrB hd
      go_wp2_with fail
      (with_reducible refine (C1.out _ _ _ HB1.out).mono ?_); rintro e w2 ⟨rfl, g2⟩
      have h2 := g1.trans (g2.mono g1.size)
      have HB2 := Lib.hid ((HB1.out.below g2).more g2.size)
      clear g2 HB1 g1
      go_wp2_with fail
      (with_reducible refine (C1'.out _ ((HR.out.below h2).more h2.size)).mono ?_); rintro e w3 ⟨rfl, g3⟩
      have h3 := h2.trans (g3.mono h2.size)
      have HB3 := Lib.hid ((HB2.out.below g3).more g3.size)
      clear g3 HB2 h2
      go_wp2_with fail
      (with_reducible refine (C2.out _ _ _ HB3.out).mono ?_); rintro e w4 ⟨rfl, g4⟩
      have h4 := h3.trans (g4.mono h3.size)
      have HB4 := Lib.hid ((HB3.out.below g4).more g4.size)
      clear g4 HB3 h3
      go_wp2_with fail
      (with_reducible refine (C2'.out _ ((HR.out.below h4).more h4.size)).mono ?_); rintro e w5 ⟨rfl, g5⟩
      have h5 := h4.trans (g5.mono h4.size)
      have HB5 := Lib.hid ((HB4.out.below g5).more g5.size)
      clear g5 HB4 h4
      go_wp2_with fail
      (with_reducible refine (C3.out _ _ _ HB5.out).mono ?_); rintro e w6 ⟨A6, c6, rfl, _, hr6, g6⟩
      have h6 := h5.trans (g6.mono h5.size)
      have HB6 := Lib.hid ((HB5.out.below g6).more g6.size)
      have HR6 := Lib.hid hr6
      clear g6 HB5 h5 hr6
      go_wp2_with fail
      (with_reducible refine (C3'.out _ ((HR.out.below h6).more h6.size)).mono ?_); rintro e w7 ⟨A7, c7, rfl, _, hr7, g7⟩
      have h7 := h6.trans (g7.mono h6.size)
      have HB7 := Lib.hid ((HB6.out.below g7).more g7.size)
      have cS := SameTexts_any A6 A7 V.length V.length c6 c7 V V w7 ((HR6.out.below g7).more g7.size) hr7 (by have := HL.out; omega) (by have := HL.out; omega)
      rw [beq_self_eq_true] at cS
      have CS := Lib.hid cS
      clear g7 HB6 h6 hr7 cS HR6
      go_wp2_with fail
      (with_reducible refine (CS.out).mono ?_); rintro e w8 ⟨rfl, m, rfl⟩
      have h8 := below_drewN h7 m
      have k7 : Below w7.heap.size w7 (w7.drewN m) := below_drewN (Below.refl _ w7) m
      have HB8 := Lib.hid ((HB7.out.below k7).more k7.size)
      clear k7
      clear HB7 CS
      go_wp2_with fail
      (with_reducible refine (C4.out _ _ _ HB8.out).mono ?_); rintro e w9 ⟨rfl, g9⟩
      have h9 := h8.trans (g9.mono h8.size)
      have HB9 := Lib.hid ((HB8.out.below g9).more g9.size)
      clear g9 HB8 h8 h7
      go_wp2_with fail
      (with_reducible refine (C4'.out _ ((HR.out.below h9).more h9.size)).mono ?_); rintro e w10 ⟨rfl, g10⟩
      have h10 := h9.trans (g10.mono h9.size)
      have cF := SameFields_any B A l.length l.length d c l l w10 ((HB9.out.below g10).more g10.size) ((HR.out.below h10).more h10.size) (by omega) (by omega)
      rw [decide_eq_true rfl] at cF
      have CF := Lib.hid cF
      clear g10 HB9 h9 cF
      go_wp2_with fail
      (with_reducible refine (CF.out).mono ?_); rintro e w11 ⟨rfl, m11, rfl⟩
      have h11 := below_drewN h10 m11
      clear h10 CF
      go_wp2_with fail
      (with_reducible refine (AW.out _).mono ?_); rintro e w12 ⟨rfl, g12⟩
      go_wp2_with fail
      go_ret
      exact ⟨rfl, h11.trans (g12.mono h11.size)⟩
  · have d1 : decide ((100 : Int) < (nm.size : Int)) = true := by simp; omega
    go_enter Tryd.func13, Tryd.ntmps13
    go_wp2_with fail
    (with_reducible refine (CLG.out).mono ?_); rintro e w1 ⟨r, rfl, rfl, _⟩
    cases r with
    | true =>
      go_wp2_with fail
      (with_reducible refine (AW.out _).mono ?_); rintro e w1 ⟨rfl, hb1⟩
      go_wp2_with fail
      go_ret
      exact ⟨rfl, hb1⟩
    | false =>
      go_wp2_with fail
      (with_reducible refine (AW.out _).mono ?_); rintro e w1 ⟨rfl, hb1⟩
      go_wp2_with fail
      go_ret
      exact ⟨rfl, hb1⟩
end Go.Proofs.YtepemdmjbfoiaaaDoor
