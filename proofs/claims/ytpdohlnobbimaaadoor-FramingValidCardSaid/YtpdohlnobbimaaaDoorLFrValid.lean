/-
  FramingValid, the law.
-/
import Derived.Test.YtpdohlnobbimaaaDoorFrA
import Derived.Test.YtpdohlnobbimaaaDoorLFrOf
import Derived.Test.YtpdohlnobbimaaaDoorLFrKnown
namespace Go.Proofs.YtpdohlnobbimaaaDoor
open Go.RowKit

set_option maxRecDepth 100000 in
set_option maxHeartbeats 16000000 in
theorem FramingValid_true (x y : Fld) (w : World) (hx : x.1.length ≤ 9223372036854775807 ∧ x.2.length ≤ 9223372036854775807) (hy : y.1.length ≤ 9223372036854775807 ∧ y.2.length ≤ 9223372036854775807) (htab : Tabs w) :
    Calls Tryd.prog 10 #[.agg #[.string (bs x.1), .string (bs x.2)], .agg #[.string (bs y.1), .string (bs y.2)]] w fun e w' => e = .returned (.bool true) ∧ Below w.heap.size w w' := by
  obtain ⟨W1, hW1⟩ : ∃ W1, (w.alloc (.cells #[.string (bs x.1), .string (bs x.2)] 36)).alloc (.cells #[.string (bs y.1), .string (bs y.2)] 36) = W1 := ⟨_, rfl⟩
  have h0 : Below w.heap.size w W1 := by rw [← hW1]; exact ((Below.refl _ _).alloc (Nat.le_refl _) _).alloc (by simp) _
  have mX : Blk W1 w.heap.size 36 #[.string (bs x.1), .string (bs x.2)] := by rw [← hW1]; exact (Blk.new w _ _).alloc _
  have mY : Blk W1 (w.heap.size + 1) 36 #[.string (bs y.1), .string (bs y.2)] := by
    have := Blk.new (w.alloc (.cells #[.string (bs x.1), .string (bs x.2)] 36)) 36 #[.string (bs y.1), .string (bs y.2)]
    rw [World.size_alloc] at this
    rw [← hW1]; exact this
  have F1 := Lib.hid mX
  have F2 := Lib.hid mY
  have TB := Lib.hid (fun X (h : Below w.heap.size w X) => htab.below h)
  have hO2 : ofT [y, x] = ofT [x, y] := ofT_rev [x, y]
  have hok := ofP_ok (lensT (valuesL clN [x, y])).1 (lensT (valuesL clN [x, y])).2 (chunkT (valuesL teN [x, y])).1 (chunkT (valuesL teN [x, y])).2
  rw [show ofP (lensT (valuesL clN [x, y])).1 (lensT (valuesL clN [x, y])).2 (chunkT (valuesL teN [x, y])).1 (chunkT (valuesL teN [x, y])).2 = ofT [x, y] from rfl] at hok
  obtain ⟨⟨K, N, S⟩, hO⟩ : ∃ z, ofT [x, y] = z := ⟨_, rfl⟩
  rw [hO] at hO2 hok
  have HO := Lib.hid (And.intro hO hO2)
  have HOK := Lib.hid hok
  have HXY := Lib.hid (And.intro hx hy)
  clear mX mY htab hO2 hO hok hx hy
  have px0 : W1.cell? ⟨w.heap.size, 0, none⟩ = some (.string (bs x.1)) := F1.out.cell 0
  have py0 : W1.cell? ⟨w.heap.size + 1, 0, none⟩ = some (.string (bs y.1)) := F2.out.cell 0
  have px1 : W1.cell? ⟨w.heap.size, 1, none⟩ = some (.string (bs x.2)) := F1.out.cell 1
  have py1 : W1.cell? ⟨w.heap.size + 1, 1, none⟩ = some (.string (bs y.2)) := F2.out.cell 1
  go_enter Tryd.func10, Tryd.ntmps10
  try rw [hW1]
  go_wp2_with fail
  (with_reducible refine (FramingKnown_true _ (TB.out _ h0)).mono ?_); rintro e w1 ⟨rfl, g⟩
  clear hW1
  clear px0 px1 py0 py1
  have h1 := h0.trans (g.mono h0.size)
  have F1 := Lib.hid (F1.out.below g F1.out.lt)
  have F2 := Lib.hid (F2.out.below g F2.out.lt)
  clear g h0
  have px0 : w1.cell? ⟨w.heap.size, 0, none⟩ = some (.string (bs x.1)) := F1.out.cell 0
  have py0 : w1.cell? ⟨w.heap.size + 1, 0, none⟩ = some (.string (bs y.1)) := F2.out.cell 0
  have px1 : w1.cell? ⟨w.heap.size, 1, none⟩ = some (.string (bs x.2)) := F1.out.cell 1
  have py1 : w1.cell? ⟨w.heap.size + 1, 1, none⟩ = some (.string (bs y.2)) := F2.out.cell 1
  go_wp2_with fail
  clear px0 px1 py0 py1
  have HL := Lib.hid (reads_newF w1 36 [x, y] #[.string (bs x.1), .string (bs x.2), .string (bs y.1), .string (bs y.2)] rfl)
  have g := (Below.refl w1.heap.size w1).alloc (Nat.le_refl _) (.cells #[.string (bs x.1), .string (bs x.2), .string (bs y.1), .string (bs y.2)] 36)
  have h2 := h1.trans (g.mono h1.size)
  have F1 := Lib.hid (F1.out.below g F1.out.lt)
  have F2 := Lib.hid (F2.out.below g F2.out.lt)
  generalize hgw : w1.alloc (.cells #[.string (bs x.1), .string (bs x.2), .string (bs y.1), .string (bs y.2)] 36) = w2 at *
  clear hgw g h1
  (with_reducible refine (light_any _ 2 2 [x, y] _ HL.out (by omega) (fun f hf => by have := HXY.out; rcases List.mem_cons.1 hf with rfl | hf; exact this.1; rw [List.mem_singleton.1 hf]; exact this.2)).mono ?_); rintro e w3 ⟨r, rfl, rfl, hsm⟩
  clear HL HXY
  have px0 : w2.cell? ⟨w.heap.size, 0, none⟩ = some (.string (bs x.1)) := F1.out.cell 0
  have py0 : w2.cell? ⟨w.heap.size + 1, 0, none⟩ = some (.string (bs y.1)) := F2.out.cell 0
  have px1 : w2.cell? ⟨w.heap.size, 1, none⟩ = some (.string (bs x.2)) := F1.out.cell 1
  have py1 : w2.cell? ⟨w.heap.size + 1, 1, none⟩ = some (.string (bs y.2)) := F2.out.cell 1
  cases r with
  | false =>
    go_wp2_with fail
    go_ret
    exact ⟨rfl, h2⟩
  | true =>
    have hS : fldsS [x, y] := fun f hf => by have := (hsm rfl).2 f hf; omega
    have hS2 : fldsS [y, x] := fun f hf => hS f (by simp only [List.mem_cons, List.not_mem_nil, or_false] at hf ⊢; exact hf.symm)
    clear hsm
    have c1 := fun B d w hr => pOf B 2 d [x, y] w hr (by omega) hS
    have c2 := fun B d w hr => pOf B 2 d [y, x] w hr (by omega) hS2
    unfold OfPost at c1 c2
    rw [HO.out.1] at c1
    rw [HO.out.2] at c2
    simp only at c1 c2
    have C1 := Lib.hid c1
    have C2 := Lib.hid c2
    clear c1 c2 hS hS2 HO
    go_wp2_with fail
    clear px0 px1 py0 py1
    have HL := Lib.hid (reads_newF w2 36 [x, y] #[.string (bs x.1), .string (bs x.2), .string (bs y.1), .string (bs y.2)] rfl)
    have g := (Below.refl w2.heap.size w2).alloc (Nat.le_refl _) (.cells #[.string (bs x.1), .string (bs x.2), .string (bs y.1), .string (bs y.2)] 36)
    have h3 := h2.trans (g.mono h2.size)
    have F1 := Lib.hid (F1.out.below g F1.out.lt)
    have F2 := Lib.hid (F2.out.below g F2.out.lt)
    generalize hgw : w2.alloc (.cells #[.string (bs x.1), .string (bs x.2), .string (bs y.1), .string (bs y.2)] 36) = w3 at *
    clear hgw g h2
    (with_reducible refine (C1.out _ _ _ HL.out).mono ?_); rintro e w4 ⟨rfl, g⟩
    clear HL
    have h4 := h3.trans (g.mono h3.size)
    have F1 := Lib.hid (F1.out.below g F1.out.lt)
    have F2 := Lib.hid (F2.out.below g F2.out.lt)
    clear g h3
    have k1 := F1.out.below ((Below.refl w4.heap.size w4).alloc (Nat.le_refl _) (.cells #[.int .i64 (K : Int), .int .i64 (N : Int)] 48)) F1.out.lt
    have k2 := F2.out.below ((Below.refl w4.heap.size w4).alloc (Nat.le_refl _) (.cells #[.int .i64 (K : Int), .int .i64 (N : Int)] 48)) F2.out.lt
    have px0 : (w4.alloc (.cells #[.int .i64 (K : Int), .int .i64 (N : Int)] 48)).cell? ⟨w.heap.size, 0, none⟩ = some (.string (bs x.1)) := k1.cell 0
    have py0 : (w4.alloc (.cells #[.int .i64 (K : Int), .int .i64 (N : Int)] 48)).cell? ⟨w.heap.size + 1, 0, none⟩ = some (.string (bs y.1)) := k2.cell 0
    have px1 : (w4.alloc (.cells #[.int .i64 (K : Int), .int .i64 (N : Int)] 48)).cell? ⟨w.heap.size, 1, none⟩ = some (.string (bs x.2)) := k1.cell 1
    have py1 : (w4.alloc (.cells #[.int .i64 (K : Int), .int .i64 (N : Int)] 48)).cell? ⟨w.heap.size + 1, 1, none⟩ = some (.string (bs y.2)) := k2.cell 1
    clear k1 k2
    go_wp2_with fail
    clear px0 px1 py0 py1
    have hsz : (w4.alloc (.cells #[.int .i64 (K : Int), .int .i64 (N : Int)] 48)).heap.size = w4.heap.size + 1 := World.size_alloc _ _
    rw [← hsz]
    have g := (Below.refl w4.heap.size w4).alloc (Nat.le_refl _) (.cells #[.int .i64 (K : Int), .int .i64 (N : Int)] 48)
    have h5 := h4.trans (g.mono h4.size)
    have B1 := Lib.hid (Blk.new w4 48 #[.int .i64 (K : Int), .int .i64 (N : Int)])
    have F1 := Lib.hid (F1.out.below g F1.out.lt)
    have F2 := Lib.hid (F2.out.below g F2.out.lt)
    generalize hgw : w4.alloc (.cells #[.int .i64 (K : Int), .int .i64 (N : Int)] 48) = w5 at *
    clear hgw g h4
    clear hsz
    have HL := Lib.hid (reads_newF w5 36 [y, x] #[.string (bs y.1), .string (bs y.2), .string (bs x.1), .string (bs x.2)] rfl)
    have g := (Below.refl w5.heap.size w5).alloc (Nat.le_refl _) (.cells #[.string (bs y.1), .string (bs y.2), .string (bs x.1), .string (bs x.2)] 36)
    have h6 := h5.trans (g.mono h5.size)
    have F1 := Lib.hid (F1.out.below g F1.out.lt)
    have F2 := Lib.hid (F2.out.below g F2.out.lt)
    have B1 := Lib.hid (B1.out.below g B1.out.lt)
    generalize hgw : w5.alloc (.cells #[.string (bs y.1), .string (bs y.2), .string (bs x.1), .string (bs x.2)] 36) = w6 at *
    clear hgw g h5
    (with_reducible refine (C2.out _ _ _ HL.out).mono ?_); rintro e w7 ⟨rfl, g⟩
    clear HL
    have h7 := h6.trans (g.mono h6.size)
    have F1 := Lib.hid (F1.out.below g F1.out.lt)
    have F2 := Lib.hid (F2.out.below g F2.out.lt)
    have B1 := Lib.hid (B1.out.below g B1.out.lt)
    clear g h6
    clear C1 C2 F1 F2
    have k1 := B1.out.below ((Below.refl w7.heap.size w7).alloc (Nat.le_refl _) (.cells #[.int .i64 (K : Int), .int .i64 (N : Int)] 48)) B1.out.lt
    have k2 := Blk.new w7 48 #[.int .i64 (K : Int), .int .i64 (N : Int)]
    have h8 : Below w.heap.size w (w7.alloc (.cells #[.int .i64 (K : Int), .int .i64 (N : Int)] 48)) := h7.alloc h7.size _
    have hS8 := h8.size
    have k10 : (w7.alloc (.cells #[.int .i64 (K : Int), .int .i64 (N : Int)] 48)).cell? ⟨w4.heap.size, 0, none⟩ = some (.int .i64 (K : Int)) := k1.cell 0
    have k11 : (w7.alloc (.cells #[.int .i64 (K : Int), .int .i64 (N : Int)] 48)).cell? ⟨w4.heap.size, 1, none⟩ = some (.int .i64 (N : Int)) := k1.cell 1
    have k20 : (w7.alloc (.cells #[.int .i64 (K : Int), .int .i64 (N : Int)] 48)).cell? ⟨w7.heap.size, 0, none⟩ = some (.int .i64 (K : Int)) := k2.cell 0
    have k21 : (w7.alloc (.cells #[.int .i64 (K : Int), .int .i64 (N : Int)] 48)).cell? ⟨w7.heap.size, 1, none⟩ = some (.int .i64 (N : Int)) := k2.cell 1
    clear k1 k2
    have hq := neFr (K : Int) (N : Int) (K : Int) (N : Int)
    have hq2 : (!((K : Int) == (K : Int) && (N : Int) == (N : Int))) = false := by simp
    rw [hq2] at hq
    clear hq2
    have e1 : (((S : Nat) : Int) != ((S : Nat) : Int)) = false := by simp
    by_cases hS0 : S = 0
    · have hck : ckT K N = 0 := by
        have := HOK.out
        exact ck0 (by omega) (by omega)
      subst hS0
      have c3 := pCheck (K : Int) (N : Int)
      rw [hck] at c3
      have C3 := Lib.hid c3
      clear c3 hck HOK
      go_wp2_with fail
      (with_reducible refine (C3.out _).mono ?_); rintro e w9 ⟨rfl, g⟩
      go_wp2_with fail
      go_ret
      exact ⟨rfl, h8.trans (g.mono hS8)⟩
    · have hz := HOK.out
      obtain ⟨hz0, hz1, hz2⟩ : (S = 400 ∨ S = 413) ∧ K = 0 ∧ N = 0 := by omega
      subst hz1 hz2
      have e2 : (((S : Nat) : Int) != 0) = true := by simp; omega
      have hq3 := eqFr ((0 : Nat) : Int) ((0 : Nat) : Int) 0 0
      have hq4 : (((0 : Nat) : Int) == 0 && ((0 : Nat) : Int) == 0) = true := by simp
      rw [hq4] at hq3
      clear hq4 HOK hS0
      have z0 : ((0 : Nat) : Int) = 0 := rfl
      rw [z0] at k10 k11 k20 k21 hq hq3 h8 hS8
      rw [z0]
      clear z0
      rcases hz0 with rfl | rfl
      · go_wp2_with fail
        go_ret
        exact ⟨rfl, h8⟩
      · go_wp2_with fail
        go_ret
        exact ⟨rfl, h8⟩
end Go.Proofs.YtpdohlnobbimaaaDoor
