/-
  FramingOf, the law.
-/
import Derived.Test.YtpdohlnobbimaaaDoorFrA
namespace Go.Proofs.YtpdohlnobbimaaaDoor
open Go.RowKit

def LightPost (l : List Fld) (w : World) (e : Ending) (w' : World) : Prop := ∃ r, e = .returned (.bool r) ∧ w = w' ∧ (r = true → l.length ≤ 40 ∧ ∀ f ∈ l, f.1.length ≤ 100 ∧ f.2.length ≤ 100)
theorem light_any (A : Option Addr) (n c : Nat) (l : List Fld) (w : World) (hr : Reads w w.heap.size 2 A n (fldsC l)) (hn : n ≤ 9223372036854775807) (hx : ∀ f ∈ l, f.1.length ≤ 9223372036854775807 ∧ f.2.length ≤ 9223372036854775807) :
    Calls Tryd.prog 40 #[.slice A n c] w (LightPost l w) := by
  obtain rfl := hr.flen
  have HR := Lib.hid hr
  have HX := Lib.hid hx
  clear hr hx
  by_cases h40 : 40 < l.length
  · have d0 : decide ((40 : Int) < (l.length : Int)) = true := by simp; omega
    go_enter Tryd.func40, Tryd.ntmps40
    go_wp2_with fail
    go_ret
    exact ⟨false, rfl, rfl, by simp⟩
  have d0 : decide ((40 : Int) < (l.length : Int)) = false := by simp; omega
  have d0' : decide (40 < l.length) = false := by simp; omega
  go_enter Tryd.func40, Tryd.ntmps40
  go_wp2_with fail
  go_loop [3] (fun i => ∃ k : Nat, i = .int .i64 k ∧ k ≤ l.length ∧ Hid (∀ f ∈ l.take k, f.1.length ≤ 100 ∧ f.2.length ≤ 100)) (fun i => l.length - (intOf i).toNat)
  case atStart => exact ⟨0, rfl, by omega, hide (by simp)⟩
  case round =>
    obtain ⟨k, rfl, hk, HT⟩ := hrel
    by_cases hlt : k < l.length
    · obtain ⟨b, o, rfl, _, c1, c2⟩ := HR.out.fld k hlt
      obtain ⟨f, hf⟩ : ∃ f, l[k] = f := ⟨_, rfl⟩
      have hfl := HX.out l[k] (List.getElem_mem hlt)
      rw [hf] at c1 c2 hfl
      have s1 : (bs f.1).size = f.1.length := bs_size _
      have s2 : (bs f.2).size = f.2.length := bs_size _
      have HF := Lib.hid hf
      clear hf
      by_cases g1 : f.1.length ≤ 100
      · have e1 : decide ((100 : Int) < (f.1.length : Int)) = false := by simp; omega
        by_cases g2 : f.2.length ≤ 100
        · have e2 : decide ((100 : Int) < (f.2.length : Int)) = false := by simp; omega
          have HT' : Hid (∀ f ∈ l.take (k + 1), f.1.length ≤ 100 ∧ f.2.length ≤ 100) := by
            rw [List.take_succ_eq_append_getElem hlt]
            intro y hy
            rcases List.mem_append.1 hy with hy | hy
            · exact HT.out y hy
            · rw [List.mem_singleton.1 hy, HF.out]; exact ⟨g1, g2⟩
          go_wp2_with fail
          exact ⟨⟨k + 1, by go_num, by omega, HT'⟩, by simp [intOf]; omega⟩
        · have e2 : decide ((100 : Int) < (f.2.length : Int)) = true := by simp; omega
          go_wp2_with fail
          go_ret
          exact ⟨false, rfl, rfl, by simp⟩
      · have e1 : decide ((100 : Int) < (f.1.length : Int)) = true := by simp; omega
        go_wp2_with fail
        go_ret
        exact ⟨false, rfl, rfl, by simp⟩
    · have hkl : k = l.length := by omega
      subst hkl
      have hT := HT.out
      rw [List.take_length] at hT
      have hd : decide ((l.length : Int) < (l.length : Int)) = false := by simp
      go_wp2_with fail
      go_ret
      exact ⟨true, rfl, rfl, fun _ => ⟨by omega, hT⟩⟩

set_option maxRecDepth 100000 in
set_option maxHeartbeats 16000000 in
theorem FramingOf_true (A : Option Addr) (n c : Nat) (l : List Fld) (w : World) (hn : n ≤ 9223372036854775807) (hr : Reads w w.heap.size 2 A n (fldsC l)) (hx : ∀ f ∈ l, f.1.length ≤ 9223372036854775807 ∧ f.2.length ≤ 9223372036854775807) (htab : Tabs w) :
    Calls Tryd.prog 9 #[.slice A n c] w fun e w' => e = .returned (.bool true) ∧ Below w.heap.size w w' := by
  obtain rfl := hr.flen
  have CLG := Lib.hid (light_any A l.length c l w hr hn hx)
  have HX := Lib.hid hr
  have TB := Lib.hid (fun X (h : Below w.heap.size w X) => htab.below h)
  clear hr hx htab hn
  go_enter Tryd.func9, Tryd.ntmps9
  go_wp2_with fail
  (with_reducible refine (CLG.out).mono ?_); rintro e w0 ⟨r, rfl, rfl, hsm⟩
  cases r with
  | false =>
    clear hsm
    have AW := Lib.hid (awake09 w (TB.out _ (Below.refl _ _)))
    go_wp2_with fail
    (with_reducible refine (AW.out).mono ?_); rintro e w1 ⟨rfl, hb1⟩
    go_wp2_with fail
    go_ret
    exact ⟨rfl, hb1⟩
  | true =>
    obtain ⟨hl40, hsm⟩ := hsm rfl
    have hS : fldsS l := fun f hf => by have := hsm f hf; omega
    have COW := Lib.hid (OwnFields_any A l.length c l w HX.out (by omega))
    have c1 := fun B d w hr => pOf B l.length d l w hr (by omega) hS
    have c2 := fun w hr => rOf A l.length c l w hr (by omega) hS
    have c3 := fun B d w hr => pLengths B l.length d l w hr (by omega) hS
    have c4 := fun w hr => rLengths A l.length c l w hr (by omega) hS
    have c5 := fun B d w hr => pChunkedW B l.length d l w hr (by omega) (fldsS_ok hS)
    have c6 := fun w hr => rChunked A l.length c l w hr (by omega) (fldsS_ok hS)
    have hLb : (lensT (valuesL clN l)).1.length ≤ 1000000 := by
      obtain ⟨h1, h2⟩ := lensP_len (piecesL (valuesL clN l))
      have h3 := pieces_take_len (valuesL clN l) (by have := valuesL_len clN l; omega) (fldsS_values hS clN) (valuesL clN l).length
      rw [List.take_length] at h3
      have : (lensT (valuesL clN l)).1.length ≤ (piecesL (valuesL clN l)).length := h1
      omega
    unfold OfPost at c1 c2
    unfold LensPost at c3 c4
    obtain ⟨⟨K, N, S⟩, hO⟩ : ∃ z, ofT l = z := ⟨_, rfl⟩
    obtain ⟨⟨L, E⟩, hLE⟩ : ∃ z, lensT (valuesL clN l) = z := ⟨_, rfl⟩
    obtain ⟨⟨C, F⟩, hCF⟩ : ∃ z, chunkT (valuesL teN l) = z := ⟨_, rfl⟩
    rw [hO] at c1 c2
    rw [hLE] at c3 c4 hLb
    rw [hCF] at c5 c6
    simp only at c1 c2 c3 c4 c5 c6 hLb
    have C1 := Lib.hid c1
    have C2 := Lib.hid c2
    have C3 := Lib.hid c3
    have C4 := Lib.hid c4
    have C5 := Lib.hid c5
    have C6 := Lib.hid c6
    clear c1 c2 c3 c4 c5 c6 hO hLE hCF hsm hS CLG
    have hq := eqFr (K : Int) (N : Int) (K : Int) (N : Int)
    have hq2 : ((K : Int) == (K : Int) && (N : Int) == (N : Int)) = true := by simp
    rw [hq2] at hq
    clear hq2
    go_wp2_with fail
    (with_reducible refine (COW.out).mono ?_); rintro e w1 ⟨B, d, rfl, _, hr, g⟩
    have h1 := g
    have HX := Lib.hid ((HX.out.below g).more g.size)
    have HH := Lib.hid hr
    clear hr
    clear g
    go_wp2_with fail
    (with_reducible refine (C1.out _ _ _ HH.out).mono ?_); rintro e w2 ⟨rfl, g⟩
    have h2 := h1.trans (g.mono h1.size)
    have HX := Lib.hid ((HX.out.below g).more g.size)
    have HH := Lib.hid ((HH.out.below g).more g.size)
    clear g h1
    go_wp2_with fail
    have g := (Below.refl w2.heap.size w2).alloc (Nat.le_refl _) (.cells #[.int .i64 (K : Int), .int .i64 (N : Int)] 48)
    have h3 := h2.trans (g.mono h2.size)
    have F1 := Lib.hid (Blk.new w2 48 #[.int .i64 (K : Int), .int .i64 (N : Int)])
    have HX := Lib.hid ((HX.out.below g).more g.size)
    have HH := Lib.hid ((HH.out.below g).more g.size)
    generalize hgw : w2.alloc (.cells #[.int .i64 (K : Int), .int .i64 (N : Int)] 48) = w3 at *
    clear hgw g h2
    go_wp2_with fail
    (with_reducible refine (C2.out _ HX.out).mono ?_); rintro e w4 ⟨rfl, g⟩
    have h4 := h3.trans (g.mono h3.size)
    have HX := Lib.hid ((HX.out.below g).more g.size)
    have HH := Lib.hid ((HH.out.below g).more g.size)
    have F1 := Lib.hid (F1.out.below g F1.out.lt)
    clear g h3
    go_wp2_with fail
    have g := (Below.refl w4.heap.size w4).alloc (Nat.le_refl _) (.cells #[.int .i64 (K : Int), .int .i64 (N : Int)] 48)
    have h5 := h4.trans (g.mono h4.size)
    have F2 := Lib.hid (Blk.new w4 48 #[.int .i64 (K : Int), .int .i64 (N : Int)])
    have HX := Lib.hid ((HX.out.below g).more g.size)
    have HH := Lib.hid ((HH.out.below g).more g.size)
    have F1 := Lib.hid (F1.out.below g F1.out.lt)
    generalize hgw : w4.alloc (.cells #[.int .i64 (K : Int), .int .i64 (N : Int)] 48) = w5 at *
    clear hgw g h4
    go_wp2_with fail
    (with_reducible refine (C3.out _ _ _ HH.out).mono ?_); rintro e w6 ⟨A3, q3, rfl, _, hr, g⟩
    have h6 := h5.trans (g.mono h5.size)
    have HX := Lib.hid ((HX.out.below g).more g.size)
    have HH := Lib.hid ((HH.out.below g).more g.size)
    have F1 := Lib.hid (F1.out.below g F1.out.lt)
    have F2 := Lib.hid (F2.out.below g F2.out.lt)
    have L1 := Lib.hid hr
    clear hr
    clear g h5
    go_wp2_with fail
    (with_reducible refine (C4.out _ HX.out).mono ?_); rintro e w7 ⟨A4, q4, rfl, _, hr, g⟩
    have h7 := h6.trans (g.mono h6.size)
    have HX := Lib.hid ((HX.out.below g).more g.size)
    have HH := Lib.hid ((HH.out.below g).more g.size)
    have F1 := Lib.hid (F1.out.below g F1.out.lt)
    have F2 := Lib.hid (F2.out.below g F2.out.lt)
    have L1 := Lib.hid ((L1.out.below g).more g.size)
    have L2 := Lib.hid hr
    clear hr
    clear g h6
    go_wp2_with fail
    (with_reducible refine (C5.out _ _ _ HH.out).mono ?_); rintro e w8 ⟨rfl, g⟩
    have h8 := h7.trans (g.mono h7.size)
    have HX := Lib.hid ((HX.out.below g).more g.size)
    have HH := Lib.hid ((HH.out.below g).more g.size)
    have F1 := Lib.hid (F1.out.below g F1.out.lt)
    have F2 := Lib.hid (F2.out.below g F2.out.lt)
    have L1 := Lib.hid ((L1.out.below g).more g.size)
    have L2 := Lib.hid ((L2.out.below g).more g.size)
    clear g h7
    go_wp2_with fail
    (with_reducible refine (C6.out _ HX.out).mono ?_); rintro e w9 ⟨rfl, g⟩
    have h9 := h8.trans (g.mono h8.size)
    have HX := Lib.hid ((HX.out.below g).more g.size)
    have HH := Lib.hid ((HH.out.below g).more g.size)
    have F1 := Lib.hid (F1.out.below g F1.out.lt)
    have F2 := Lib.hid (F2.out.below g F2.out.lt)
    have L1 := Lib.hid ((L1.out.below g).more g.size)
    have L2 := Lib.hid ((L2.out.below g).more g.size)
    clear g h8
    have f10 : w9.cell? ⟨w2.heap.size, 0, none⟩ = some (.int .i64 (K : Int)) := F1.out.cell 0
    have f11 : w9.cell? ⟨w2.heap.size, 1, none⟩ = some (.int .i64 (N : Int)) := F1.out.cell 1
    have f20 : w9.cell? ⟨w4.heap.size, 0, none⟩ = some (.int .i64 (K : Int)) := F2.out.cell 0
    have f21 : w9.cell? ⟨w4.heap.size, 1, none⟩ = some (.int .i64 (N : Int)) := F2.out.cell 1
    have CI := Lib.hid (SameInts_eq A3 A4 L.length q3 q4 L w9 L1.out L2.out hLb)
    clear C1 C2 C3 C4 C5 C6 L1 L2
    have e1 : (((S : Nat) : Int) == ((S : Nat) : Int)) = true := by simp
    have e2 : (((E : Nat) : Int) == ((E : Nat) : Int)) = true := by simp
    have e3 : (((F : Nat) : Int) == ((F : Nat) : Int)) = true := by simp
    have e4 : (C == C) = true := by simp
    go_wp2_with fail
    (with_reducible refine (CI.out).mono ?_); rintro e w10 ⟨rfl, g⟩
    have h10 := h9.trans (g.mono h9.size)
    have HX := Lib.hid ((HX.out.below g).more g.size)
    have HH := Lib.hid ((HH.out.below g).more g.size)
    have F1 := Lib.hid (F1.out.below g F1.out.lt)
    have F2 := Lib.hid (F2.out.below g F2.out.lt)
    clear g h9
    have cF := SameFields_any B A l.length l.length d c l l w10 HH.out HX.out (by omega) (by omega)
    rw [decide_eq_true rfl] at cF
    have CF := Lib.hid cF
    clear cF
    go_wp2_with fail
    (with_reducible refine (CF.out).mono ?_); rintro e w11 ⟨rfl, m11, rfl⟩
    have g := below_drewN (Below.refl w10.heap.size w10) m11
    have h11 := h10.trans (g.mono h10.size)
    have HX := Lib.hid ((HX.out.below g).more g.size)
    have HH := Lib.hid ((HH.out.below g).more g.size)
    have F1 := Lib.hid (F1.out.below g F1.out.lt)
    have F2 := Lib.hid (F2.out.below g F2.out.lt)
    generalize hgw : w10.drewN m11 = w11 at *
    clear hgw
    clear g h10
    have AW := Lib.hid (awake09 w11 (TB.out _ h11))
    go_wp2_with fail
    (with_reducible refine (AW.out).mono ?_); rintro e w12 ⟨rfl, g⟩
    have h12 := h11.trans (g.mono h11.size)
    have HX := Lib.hid ((HX.out.below g).more g.size)
    have HH := Lib.hid ((HH.out.below g).more g.size)
    have F1 := Lib.hid (F1.out.below g F1.out.lt)
    have F2 := Lib.hid (F2.out.below g F2.out.lt)
    clear g h11
    go_wp2_with fail
    go_ret
    exact ⟨rfl, h12⟩
end Go.Proofs.YtpdohlnobbimaaaDoor
