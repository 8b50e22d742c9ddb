/-
  reqline: read, from, Long.
-/
import Derived.Test.YtencphfhpnljlaaGreatDoorRq2
namespace Go.Proofs.YtencphfhpnljlaaGreatDoor
open Go.RowKit

set_option maxRecDepth 100000 in
set_option maxHeartbeats 4000000 in
theorem pReadQ (S : List UInt8) (w : World) (hs : S.length ≤ 1000000) (h : MaxL w) :
    Calls Tryz.prog 110 #[.string (bs S)] w fun e w' => e = .returned (.agg #[.string (bs (partsS S).1), .string (bs (partsS S).2.1), .string (bs (partsS S).2.2.1), .int .i64 ((partsS S).2.2.2 : Nat)]) ∧ Below w.heap.size w w' := by
  have b2 : Below w.heap.size w ((w.alloc (.cells #[.string ⟨#[]⟩, .string ⟨#[]⟩, .string ⟨#[]⟩, .int .i64 0] 120)).alloc (.cells #[.string ⟨#[]⟩, .string ⟨#[]⟩, .string ⟨#[]⟩, .int .i64 0] 120)) := ((Below.refl _ _).alloc (Nat.le_refl _) _).alloc (by simp) _
  have k0 := (Blk.new w 120 #[.string ⟨#[]⟩, .string ⟨#[]⟩, .string ⟨#[]⟩, .int .i64 0]).alloc (.cells #[.string ⟨#[]⟩, .string ⟨#[]⟩, .string ⟨#[]⟩, .int .i64 0] 120)
  have k1 := Blk.new (w.alloc (.cells #[.string ⟨#[]⟩, .string ⟨#[]⟩, .string ⟨#[]⟩, .int .i64 0] 120)) 120 #[.string ⟨#[]⟩, .string ⟨#[]⟩, .string ⟨#[]⟩, .int .i64 0]
  rw [show (w.alloc (.cells #[.string ⟨#[]⟩, .string ⟨#[]⟩, .string ⟨#[]⟩, .int .i64 0] 120)).heap.size = w.heap.size + 1 by simp] at k1
  have cP := fun X (hX : Below w.heap.size w X) => pParts S X hs (h.below hX)
  obtain ⟨m, t, v, n, hX⟩ : ∃ m t v n, partsS S = (m, t, v, n) := ⟨_, _, _, _, rfl⟩
  rw [hX] at cP ⊢
  simp only at cP ⊢
  have CP := Lib.hid cP
  have K := Lib.hid (And.intro k0 (And.intro k1 b2))
  clear k0 k1 cP hX h hs b2
  go_enter Tryz.func110, Tryz.ntmps110
  go_wp2_with fail
  (with_reducible refine (CP.out _ K.out.2.2).mono ?_); rintro e w3 ⟨rfl, g3⟩
  have b0 := K.out.1.below g3 K.out.1.lt
  have b1 := K.out.2.1.below g3 K.out.2.1.lt
  have p0 : w3.cell? ⟨w.heap.size, 0, none⟩ = some (.string ⟨#[]⟩) := b0.cell 0
  have p1 : w3.cell? ⟨w.heap.size, 1, none⟩ = some (.string ⟨#[]⟩) := b0.cell 1
  have p2 : w3.cell? ⟨w.heap.size, 2, none⟩ = some (.string ⟨#[]⟩) := b0.cell 2
  have p3 : w3.cell? ⟨w.heap.size, 3, none⟩ = some (.int .i64 0) := b0.cell 3
  have q0 : w3.cell? ⟨w.heap.size + 1, 0, none⟩ = some (.string ⟨#[]⟩) := b1.cell 0
  have q1 : w3.cell? ⟨w.heap.size + 1, 1, none⟩ = some (.string ⟨#[]⟩) := b1.cell 1
  have q2 : w3.cell? ⟨w.heap.size + 1, 2, none⟩ = some (.string ⟨#[]⟩) := b1.cell 2
  have q3 : w3.cell? ⟨w.heap.size + 1, 3, none⟩ = some (.int .i64 0) := b1.cell 3
  have f0 := b0.frozen 0
  have f1 := b0.frozen 1
  have f2 := b0.frozen 2
  have f3 := b0.frozen 3
  have e0 := b1.frozen 0
  have e1 := b1.frozen 1
  have e2 := b1.frozen 2
  have e3 := b1.frozen 3
  have h3 := K.out.2.2.trans (g3.mono K.out.2.2.size)
  have FIN := Lib.hid (And.intro b0 h3)
  clear b0 b1 g3 h3
  go_wp2_with fail
  obtain ⟨b0, h3⟩ := FIN.out
  have b := ((((((((b0.far (p := ⟨w.heap.size + 1, 0, none⟩) (by simp) (.string (bs m))).far (p := ⟨w.heap.size + 1, 1, none⟩) (by simp) (.string (bs t))).far (p := ⟨w.heap.size + 1, 2, none⟩) (by simp) (.string (bs v))).far (p := ⟨w.heap.size + 1, 3, none⟩) (by simp) (.int .i64 (n : Int))).set_ 0 (.string (bs m))).set_ 1 (.string (bs t))).set_ 2 (.string (bs v))).set_ 3 (.int .i64 (n : Int)))
  have e : (((((#[.string ⟨#[]⟩, .string ⟨#[]⟩, .string ⟨#[]⟩, .int .i64 0] : Array Value)).setIfInBounds 0 (.string (bs m))).setIfInBounds 1 (.string (bs t))).setIfInBounds 2 (.string (bs v))).setIfInBounds 3 (.int .i64 (n : Int)) = #[.string (bs m), .string (bs t), .string (bs v), .int .i64 (n : Int)] := by simp
  rw [e] at b
  refine bodyPost_ret (results_cell_row (p := 2) (ty := 120) (by kernel_rfl) _ _ w.heap.size 120 #[.string (bs m), .string (bs t), .string (bs v), .int .i64 (n : Int)] (0, 0) _ rfl b Tryz.underlying120 rfl (by kernel_rfl)) rfl ?_
  exact ⟨rfl, (((((((h3.setCell (p := ⟨w.heap.size + 1, 0, none⟩) (by simp) _).setCell (p := ⟨w.heap.size + 1, 1, none⟩) (by simp) _).setCell (p := ⟨w.heap.size + 1, 2, none⟩) (by simp) _).setCell (p := ⟨w.heap.size + 1, 3, none⟩) (by simp) _).setCell (p := ⟨w.heap.size, 0, none⟩) (by simp) _).setCell (p := ⟨w.heap.size, 1, none⟩) (by simp) _).setCell (p := ⟨w.heap.size, 2, none⟩) (by simp) _).setCell (p := ⟨w.heap.size, 3, none⟩) (by simp) _⟩
set_option maxRecDepth 100000 in
set_option maxHeartbeats 4000000 in
theorem pFrom (a b c : ByteArray) (n : Int) (i : Nat) (j : Int) (hj : j = (i : Int)) (hi : i ≤ 2) (w : World) (ha : a.size ≤ 1000000) (hb : b.size ≤ 1000000) :
    Calls Tryz.prog 111 #[.agg #[.string a, .string b, .string c, .int .i64 n], .int .i64 j] w fun e w' => ∃ r : Nat, e = .returned (.int .i64 r) ∧ r ≤ 4000000 ∧ Below w.heap.size w w' := by
  subst hj
  have b0 : Below w.heap.size w (w.alloc (.cells #[.string a, .string b, .string c, .int .i64 n] 120)) := (Below.refl _ _).alloc (Nat.le_refl _) _
  have k0 := Blk.new w 120 #[.string a, .string b, .string c, .int .i64 n]
  have c0 : (w.alloc (.cells #[.string a, .string b, .string c, .int .i64 n] 120)).cell? ⟨w.heap.size, 0, none⟩ = some (.string a) := k0.cell 0
  have c1 : (w.alloc (.cells #[.string a, .string b, .string c, .int .i64 n] 120)).cell? ⟨w.heap.size, 1, none⟩ = some (.string b) := k0.cell 1
  have B0 := Lib.hid b0
  clear b0 k0
  go_enter Tryz.func111, Tryz.ntmps111
  go_wp2_with fail
  go_loop [5, 8] (fun x j => ∃ (y k : Nat), x = .int .i64 y ∧ j = .int .i64 k ∧ k ≤ i ∧ y ≤ k * 1000001) (fun _ j => i - (intOf j).toNat)
  case atStart => exact ⟨0, 0, rfl, rfl, by omega, by omega⟩
  case round =>
    obtain ⟨y, k, rfl, rfl, hk, hy⟩ := hrel
    by_cases hlt : k < i
    · have hk2 : k = 0 ∨ k = 1 := by omega
      rcases hk2 with rfl | rfl
      · have i1 : (0 : Int) < (i : Int) := by omega
        have w1 : IntKind.i64.wrap ((a.size : Int) + 1) = (a.size : Int) + 1 := by rw [IntKind.wrap_i64]; omega
        have w2 : IntKind.i64.wrap ((y : Int) + ((a.size : Int) + 1)) = (y : Int) + ((a.size : Int) + 1) := by rw [IntKind.wrap_i64]; omega
        go_wp2_with fail
        go_round
        case rel => exact ⟨y + (a.size + 1), 1, by go_num, by go_num, by omega, by omega⟩
        case measure => simp [intOf]; omega
      · have i1 : (1 : Int) < (i : Int) := by omega
        have w1 : IntKind.i64.wrap ((b.size : Int) + 1) = (b.size : Int) + 1 := by rw [IntKind.wrap_i64]; omega
        have w2 : IntKind.i64.wrap ((y : Int) + ((b.size : Int) + 1)) = (y : Int) + ((b.size : Int) + 1) := by rw [IntKind.wrap_i64]; omega
        go_wp2_with fail
        go_round
        case rel => exact ⟨y + (b.size + 1), 2, by go_num, by go_num, by omega, by omega⟩
        case measure => simp [intOf]; omega
    · obtain rfl : k = i := by omega
      have hd : decide ((k : Int) < (k : Int)) = false := by simp
      go_wp2_with fail
      go_ret
      exact ⟨y, rfl, by omega, B0.out⟩
set_option maxRecDepth 100000 in
set_option maxHeartbeats 8000000 in
theorem pLong (S : List UInt8) (w : World) (hs : S.length ≤ 1000000) (h : MaxL w) :
    Calls Tryz.prog 73 #[.string (bs S)] w fun e w' => ∃ r : Int, e = .returned (.tuple #[.int .i64 (longS S : Nat), .int .i64 r]) ∧ Below w.heap.size w w' := by
  have cR := pReadQ S w hs h
  have hl := parts_len S
  have hL : longS S = if 16 < (partsS S).1.length then 400 else if 1024 < (partsS S).2.1.length then 414 else if 512 < (partsS S).2.2.1.length then 400 else 0 := rfl
  obtain ⟨m, t, v, n, hX⟩ : ∃ m t v n, partsS S = (m, t, v, n) := ⟨_, _, _, _, rfl⟩
  rw [hX] at cR hl hL
  simp only at cR hl hL
  have zm := bs_size m
  have zt := bs_size t
  have zv := bs_size v
  rw [← zm, ← zt, ← zv] at hL hl
  obtain ⟨M, hM⟩ : ∃ M, bs m = M := ⟨_, rfl⟩
  obtain ⟨T, hT⟩ : ∃ T, bs t = T := ⟨_, rfl⟩
  obtain ⟨V, hV⟩ : ∃ V, bs v = V := ⟨_, rfl⟩
  obtain ⟨E, hE⟩ : ∃ E, longS S = E := ⟨_, rfl⟩
  rw [hM, hT, hV] at hL hl cR
  rw [hE] at hL ⊢
  have hM6 : M.size ≤ 1000000 := by omega
  have hT6 : T.size ≤ 1000000 := by omega
  have hV6 : V.size ≤ 1000000 := by omega
  have CF := Lib.hid (fun i j hj hi X => pFrom M T V (n : Int) i j hj hi X hM6 hT6)
  have CR := Lib.hid cR
  have HL := Lib.hid hL
  clear cR hL zm zt zv hM hT hV hE hX hl h
  have i0 : ∀ w, (Instr.index 169 (.agg #[.int .i64 16, .int .i64 1024, .int .i64 512]) (.int .i64 0)).run Tryz.prog w = .ok (.int .i64 16) w := fun _ => by kernel_rfl
  have i1' : ∀ w, (Instr.index 169 (.agg #[.int .i64 16, .int .i64 1024, .int .i64 512]) (.int .i64 1)).run Tryz.prog w = .ok (.int .i64 1024) w := fun _ => by kernel_rfl
  have i2' : ∀ w, (Instr.index 169 (.agg #[.int .i64 16, .int .i64 1024, .int .i64 512]) (.int .i64 2)).run Tryz.prog w = .ok (.int .i64 512) w := fun _ => by kernel_rfl
  go_enter Tryz.func73, Tryz.ntmps73
  go_wp2_with fail
  (with_reducible refine (CR.out).mono ?_); rintro e w1 ⟨rfl, g1⟩
  have b1 := g1.alloc g1.size (.cells #[.string M, .string T, .string V, .int .i64 (n : Int)] 120)
  have k1 := Blk.new w1 120 #[.string M, .string T, .string V, .int .i64 (n : Int)]
  have c0 : (w1.alloc (.cells #[.string M, .string T, .string V, .int .i64 (n : Int)] 120)).cell? ⟨w1.heap.size, 0, none⟩ = some (.string M) := k1.cell 0
  have c1 : (w1.alloc (.cells #[.string M, .string T, .string V, .int .i64 (n : Int)] 120)).cell? ⟨w1.heap.size, 1, none⟩ = some (.string T) := k1.cell 1
  have c2 : (w1.alloc (.cells #[.string M, .string T, .string V, .int .i64 (n : Int)] 120)).cell? ⟨w1.heap.size, 2, none⟩ = some (.string V) := k1.cell 2
  have c3 : (w1.alloc (.cells #[.string M, .string T, .string V, .int .i64 (n : Int)] 120)).cell? ⟨w1.heap.size, 3, none⟩ = some (.int .i64 (n : Int)) := k1.cell 3
  have B1 := Lib.hid b1
  clear b1 k1 g1
  go_wp2_with fail
  generalize w1.alloc (.cells #[.string M, .string T, .string V, .int .i64 (n : Int)] 120) = W at *
  go_loop [10] (fun j => (j = .int .i64 0 ∨ (j = .int .i64 1 ∧ M.size ≤ 16) ∨ (j = .int .i64 2 ∧ M.size ≤ 16 ∧ T.size ≤ 1024) ∨ (j = .int .i64 3 ∧ M.size ≤ 16 ∧ T.size ≤ 1024 ∧ V.size ≤ 512))) (fun j => 3 - (intOf j).toNat)
  case atStart => exact .inl rfl
  case round =>
    rcases hrel with rfl | ⟨rfl, h1⟩ | ⟨rfl, h1, h2⟩ | ⟨rfl, h1, h2, h3⟩
    · by_cases h1 : M.size ≤ 16
      · have i1 : (M.size : Int) ≤ 16 := by omega
        go_wp2_with fail
        go_round
        case rel => exact .inr (.inl ⟨rfl, h1⟩)
        case measure => simp [intOf]
      · have i1 : ¬ (M.size : Int) ≤ 16 := by omega
        have hE : E = 400 := by rw [HL.out, if_pos (by omega)]
        have C0 := Lib.hid (CF.out 0 0 rfl (by omega) W)
        subst hE
        go_wp2_with fail
        (with_reducible refine (C0.out).mono ?_); rintro e w2 ⟨r, rfl, hr, g2⟩
        have wr : IntKind.i64.wrap ((r : Int) + 16) = (r : Int) + 16 := by rw [IntKind.wrap_i64]; omega
        go_wp2_with fail
        go_ret2
        exact ⟨_, rfl, B1.out.trans (g2.mono B1.out.size)⟩
    · by_cases h2 : T.size ≤ 1024
      · have i1 : (T.size : Int) ≤ 1024 := by omega
        go_wp2_with fail
        go_round
        case rel => exact .inr (.inr (.inl ⟨rfl, h1, h2⟩))
        case measure => simp [intOf]
      · have i1 : ¬ (T.size : Int) ≤ 1024 := by omega
        have hE : E = 414 := by rw [HL.out, if_neg (by omega), if_pos (by omega)]
        have C0 := Lib.hid (CF.out 1 1 rfl (by omega) W)
        subst hE
        go_wp2_with fail
        (with_reducible refine (C0.out).mono ?_); rintro e w2 ⟨r, rfl, hr, g2⟩
        have wr : IntKind.i64.wrap ((r : Int) + 1024) = (r : Int) + 1024 := by rw [IntKind.wrap_i64]; omega
        go_wp2_with fail
        go_ret2
        exact ⟨_, rfl, B1.out.trans (g2.mono B1.out.size)⟩
    · by_cases h3 : V.size ≤ 512
      · have i1 : (V.size : Int) ≤ 512 := by omega
        go_wp2_with fail
        go_round
        case rel => exact .inr (.inr (.inr ⟨rfl, h1, h2, h3⟩))
        case measure => simp [intOf]
      · have i1 : ¬ (V.size : Int) ≤ 512 := by omega
        have hE : E = 400 := by rw [HL.out, if_neg (by omega), if_neg (by omega), if_pos (by omega)]
        have C0 := Lib.hid (CF.out 2 2 rfl (by omega) W)
        subst hE
        go_wp2_with fail
        (with_reducible refine (C0.out).mono ?_); rintro e w2 ⟨r, rfl, hr, g2⟩
        have wr : IntKind.i64.wrap ((r : Int) + 512) = (r : Int) + 512 := by rw [IntKind.wrap_i64]; omega
        go_wp2_with fail
        go_ret2
        exact ⟨_, rfl, B1.out.trans (g2.mono B1.out.size)⟩
    · have hE : E = 0 := by rw [HL.out, if_neg (by omega), if_neg (by omega), if_neg (by omega)]
      subst hE
      go_wp2_with fail
      go_ret2
      exact ⟨⟨_, rfl⟩, B1.out⟩
end Go.Proofs.YtencphfhpnljlaaGreatDoor
