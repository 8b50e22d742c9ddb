/-
  FramingKnown, the law.
-/
import Derived.Test.YtpdohlnobbimaaaDoorFrA
namespace Go.Proofs.YtpdohlnobbimaaaDoor
open Go.RowKit

theorem kn0 : ofT (pairL [[67, 111, 110, 116, 101, 110, 116, 45, 76, 101, 110, 103, 116, 104], [53]]) = (2, 5, 0) := by decide +kernel
theorem kn1 : ofT (pairL [[67, 111, 110, 116, 101, 110, 116, 45, 76, 101, 110, 103, 116, 104], [45, 49]]) = (0, 0, 400) := by decide +kernel
theorem kn2 : ofT (pairL [[67, 111, 110, 116, 101, 110, 116, 45, 76, 101, 110, 103, 116, 104], [49, 50, 51, 52, 53, 54, 55, 56, 57, 48]]) = (0, 0, 400) := by decide +kernel
theorem kn3 : ofT (pairL [[67, 111, 110, 116, 101, 110, 116, 45, 76, 101, 110, 103, 116, 104], [53], [84, 114, 97, 110, 115, 102, 101, 114, 45, 69, 110, 99, 111, 100, 105, 110, 103], [99, 104, 117, 110, 107, 101, 100]]) = (0, 0, 400) := by decide +kernel
theorem kn4 : ofT (pairL [[84, 114, 97, 110, 115, 102, 101, 114, 45, 69, 110, 99, 111, 100, 105, 110, 103], [103, 122, 105, 112, 44, 32, 99, 104, 117, 110, 107, 101, 100]]) = (0, 0, 400) := by decide +kernel
theorem kn5 : ofT (pairL [[84, 114, 97, 110, 115, 102, 101, 114, 45, 69, 110, 99, 111, 100, 105, 110, 103], [99, 104, 117, 110, 107, 101, 100], [84, 114, 97, 110, 115, 102, 101, 114, 45, 69, 110, 99, 111, 100, 105, 110, 103], [99, 104, 117, 110, 107, 101, 100]]) = (0, 0, 400) := by decide +kernel
theorem kn6 : ofT (pairL [[67, 111, 110, 116, 101, 110, 116, 45, 76, 101, 110, 103, 116, 104], []]) = (0, 0, 400) := by decide +kernel
theorem kn7 : lensT (valuesL clN (pairL [[67, 111, 110, 116, 101, 110, 116, 45, 76, 101, 110, 103, 116, 104], [49, 44, 32, 50], [67, 111, 110, 116, 101, 110, 116, 45, 76, 101, 110, 103, 116, 104], [49]])) = ([1, 2, 1], 0) := by decide +kernel
theorem kn8 : chunkT (valuesL teN (pairL [[84, 114, 97, 110, 115, 102, 101, 114, 45, 69, 110, 99, 111, 100, 105, 110, 103], [103, 122, 105, 112]])) = (false, 3) := by decide +kernel
theorem kn9 : fieldsT 2 5 = (pairL [[67, 111, 110, 116, 101, 110, 116, 45, 76, 101, 110, 103, 116, 104], [53]], 0) := by
  rw [fields_0 (by decide), if_pos rfl, show (5 : Int).toNat = 5 from rfl, dec_small (by omega)]
  rfl
theorem kn10 : fieldsT 1 0 = ([], 0) := by decide +kernel
theorem kn11 : bytesT 3 0 (⟨#[]⟩ : ByteArray).data.toList = ((⟨#[48, 13, 10, 13, 10]⟩ : ByteArray).data.toList, 0) := by
  rw [bytes_0 (by decide), if_neg (by decide), if_neg (by decide), if_neg (by decide), if_pos rfl]
  rfl
theorem kn12 : bytesT 2 2 (⟨#[97, 98, 99]⟩ : ByteArray).data.toList = ([], 3) := by
  rw [bytes_0 (by decide), if_neg (by decide), if_pos (by decide)]
theorem kn13 : leftT 2 5 3 = (2, 0) := by decide +kernel
theorem kn14 : leftT 3 0 9 = (-1, 0) := by decide +kernel
theorem kn15 : leftT 1 0 1 = (0, 2) := by decide +kernel
theorem kF1 (w : World) (ht : Tabs w) : Calls Tryd.prog 25 #[.agg #[.int .i64 2, .int .i64 5]] w fun e w' => ∃ A cap, e = .returned (.tuple #[.slice A 1 cap, .int .i64 0]) ∧ Reads w' w'.heap.size 2 A 1 (fldsC (pairL [[67, 111, 110, 116, 101, 110, 116, 45, 76, 101, 110, 103, 116, 104], [53]])) ∧ Below w.heap.size w w' := by
  have c := pFields 2 5 w ht
  unfold FldsPost9 at c
  rw [kn9] at c
  exact c.mono fun e w' ⟨A, cap, he, _, hr, hb⟩ => ⟨A, cap, he, hr, hb⟩
theorem kF2 (w : World) (ht : Tabs w) : Calls Tryd.prog 25 #[.agg #[.int .i64 1, .int .i64 0]] w fun e w' => ∃ A cap, e = .returned (.tuple #[.slice A 0 cap, .int .i64 0]) ∧ Below w.heap.size w w' := by
  have c := pFields 1 0 w ht
  unfold FldsPost9 at c
  rw [kn10] at c
  exact c.mono fun e w' ⟨A, cap, he, _, _, hb⟩ => ⟨A, cap, he, hb⟩
theorem kC (K n E : Int) (hE : (ckT K n : Int) = E) (w : World) : Calls Tryd.prog 28 #[.agg #[.int .i64 K, .int .i64 n]] w fun e w' => e = .returned (.int .i64 E) ∧ Below w.heap.size w w' := by
  have c := pCheck K n w
  rw [hE] at c
  exact c
theorem kB (w : World) (ht : Tabs w) : Calls Tryd.prog 36 #[.agg #[.int .i64 2, .int .i64 2], .string ⟨#[97, 98, 99]⟩] w fun e w' => e = .returned (.tuple #[.string ⟨#[]⟩, .int .i64 3]) ∧ Below w.heap.size w w' := by
  have c := pBytes 2 2 ⟨#[97, 98, 99]⟩ (by decide) w ht
  rw [kn12] at c
  exact c
theorem kL (K n g a : Int) (E : Int) (E0 : Nat) (h : leftT K n g = (a, E0)) (hE : (E0 : Int) = E) (w : World) : Calls Tryd.prog 37 #[.agg #[.int .i64 K, .int .i64 n], .int .i64 g] w fun e w' => e = .returned (.tuple #[.int .i64 a, .int .i64 E]) ∧ Below w.heap.size w w' := by
  have c := pLeft K n g w
  rw [h] at c
  subst hE
  exact c
theorem kLen (A : Option Addr) (c : Nat) (w : World) (hr : Reads w w.heap.size 2 A 2 (fldsC (pairL [[67, 111, 110, 116, 101, 110, 116, 45, 76, 101, 110, 103, 116, 104], [49, 44, 32, 50], [67, 111, 110, 116, 101, 110, 116, 45, 76, 101, 110, 103, 116, 104], [49]]))) : Calls Tryd.prog 31 #[.slice A 2 c] w fun e w' => ∃ B d, e = .returned (.tuple #[.slice B 3 d, .int .i64 0]) ∧ Reads w' w'.heap.size 1 B 3 (ints [1, 2, 1]) ∧ Below w.heap.size w w' := by
  have k := pLengths A 2 c (pairL [[67, 111, 110, 116, 101, 110, 116, 45, 76, 101, 110, 103, 116, 104], [49, 44, 32, 50], [67, 111, 110, 116, 101, 110, 116, 45, 76, 101, 110, 103, 116, 104], [49]]) w hr (by omega) (pair_short _ (by decide))
  unfold LensPost at k
  rw [kn7] at k
  exact k.mono fun e w' ⟨A, cap, he, _, hr, hb⟩ => ⟨A, cap, he, hr, hb⟩
theorem kChk (A : Option Addr) (c : Nat) (w : World) (hr : Reads w w.heap.size 2 A 1 (fldsC (pairL [[84, 114, 97, 110, 115, 102, 101, 114, 45, 69, 110, 99, 111, 100, 105, 110, 103], [103, 122, 105, 112]]))) : Calls Tryd.prog 33 #[.slice A 1 c] w fun e w' => e = .returned (.tuple #[.bool false, .int .i64 3]) ∧ Below w.heap.size w w' := by
  have k := pChunkedW A 1 c (pairL [[84, 114, 97, 110, 115, 102, 101, 114, 45, 69, 110, 99, 111, 100, 105, 110, 103], [103, 122, 105, 112]]) w hr (by omega) (fldsS_ok (pair_short _ (by decide)))
  rw [kn8] at k
  exact k
theorem kFl (A : Option Addr) (n c : Nat) (xs : List (List UInt8)) (m : Nat) (hm : (pairL xs).length = m) (w : World) (hr : Reads w w.heap.size 1 A n (strs xs)) (hn : n ≤ 1000) :
    Calls Tryd.prog 32 #[.slice A n c] w fun e w' => ∃ B d, e = .returned (.slice B m d) ∧ Reads w' w'.heap.size 2 B m (fldsC (pairL xs)) ∧ Below w.heap.size w w' := by
  subst hm
  exact (fields09 A n c xs w hr hn).mono fun e w' ⟨B, d, he, _, hr, hb⟩ => ⟨B, d, he, hr, hb⟩
theorem reads_intsN (w : World) (t : TypeId) (xs : List Nat) (cs : Array Value) (h : cs.toList = ints xs) : Reads (w.alloc (.cells cs t)) (w.alloc (.cells cs t)).heap.size 1 (some ⟨w.heap.size, 0, none⟩) xs.length (ints xs) := by
  refine ⟨by rw [ints_len, Nat.mul_one], fun _ => ⟨_, rfl, by simp, fun j u hu => ?_⟩⟩
  rw [Addr.add_lit, Nat.zero_add, (Blk.new w t cs).cell j]
  rw [← h] at hu
  simpa using hu

set_option maxRecDepth 100000 in
set_option maxHeartbeats 32000000 in
theorem FramingKnown_true (w : World) (htab : Tabs w) : Calls Tryd.prog 7 #[] w fun e w' => e = .returned (.bool true) ∧ Below w.heap.size w w' := by
  have TB := Lib.hid (fun X (h : Below w.heap.size w X) => htab.below h)
  clear htab
  go_enter Tryd.func7, Tryd.ntmps7
  go_wp2_with fail
  have HS := Lib.hid (reads_new w 9 [[67, 111, 110, 116, 101, 110, 116, 45, 76, 101, 110, 103, 116, 104], [53]] #[.string ⟨#[67, 111, 110, 116, 101, 110, 116, 45, 76, 101, 110, 103, 116, 104]⟩, .string ⟨#[53]⟩] rfl)
  have g := (Below.refl w.heap.size w).alloc (Nat.le_refl _) (.cells #[.string ⟨#[67, 111, 110, 116, 101, 110, 116, 45, 76, 101, 110, 103, 116, 104]⟩, .string ⟨#[53]⟩] 9)
  have h1 := g
  generalize hgw : w.alloc (.cells #[.string ⟨#[67, 111, 110, 116, 101, 110, 116, 45, 76, 101, 110, 103, 116, 104]⟩, .string ⟨#[53]⟩] 9) = w1 at *
  clear hgw g
  (with_reducible refine (of_hit 2 5 _ 2 2 _ _ HS.out (by omega) (by decide) _ kn0 rfl rfl rfl).mono ?_); rintro e w2 ⟨rfl, g⟩
  have h2 := h1.trans (g.mono h1.size)
  clear g h1
  clear HS
  go_wp2_with fail
  have HS := Lib.hid (reads_new w2 9 [[67, 111, 110, 116, 101, 110, 116, 45, 76, 101, 110, 103, 116, 104], [45, 49]] #[.string ⟨#[67, 111, 110, 116, 101, 110, 116, 45, 76, 101, 110, 103, 116, 104]⟩, .string ⟨#[45, 49]⟩] rfl)
  have g := (Below.refl w2.heap.size w2).alloc (Nat.le_refl _) (.cells #[.string ⟨#[67, 111, 110, 116, 101, 110, 116, 45, 76, 101, 110, 103, 116, 104]⟩, .string ⟨#[45, 49]⟩] 9)
  have h3 := h2.trans (g.mono h2.size)
  generalize hgw : w2.alloc (.cells #[.string ⟨#[67, 111, 110, 116, 101, 110, 116, 45, 76, 101, 110, 103, 116, 104]⟩, .string ⟨#[45, 49]⟩] 9) = w3 at *
  clear hgw g h2
  (with_reducible refine (status_hit 400 _ 2 2 _ _ HS.out (by omega) (by decide) 400 kn1 rfl).mono ?_); rintro e w4 ⟨rfl, g⟩
  have h4 := h3.trans (g.mono h3.size)
  clear g h3
  clear HS
  go_wp2_with fail
  have HS := Lib.hid (reads_new w4 9 [[67, 111, 110, 116, 101, 110, 116, 45, 76, 101, 110, 103, 116, 104], [49, 50, 51, 52, 53, 54, 55, 56, 57, 48]] #[.string ⟨#[67, 111, 110, 116, 101, 110, 116, 45, 76, 101, 110, 103, 116, 104]⟩, .string ⟨#[49, 50, 51, 52, 53, 54, 55, 56, 57, 48]⟩] rfl)
  have g := (Below.refl w4.heap.size w4).alloc (Nat.le_refl _) (.cells #[.string ⟨#[67, 111, 110, 116, 101, 110, 116, 45, 76, 101, 110, 103, 116, 104]⟩, .string ⟨#[49, 50, 51, 52, 53, 54, 55, 56, 57, 48]⟩] 9)
  have h5 := h4.trans (g.mono h4.size)
  generalize hgw : w4.alloc (.cells #[.string ⟨#[67, 111, 110, 116, 101, 110, 116, 45, 76, 101, 110, 103, 116, 104]⟩, .string ⟨#[49, 50, 51, 52, 53, 54, 55, 56, 57, 48]⟩] 9) = w5 at *
  clear hgw g h4
  (with_reducible refine (status_hit 400 _ 2 2 _ _ HS.out (by omega) (by decide) 400 kn2 rfl).mono ?_); rintro e w6 ⟨rfl, g⟩
  have h6 := h5.trans (g.mono h5.size)
  clear g h5
  clear HS
  go_wp2_with fail
  have HS := Lib.hid (reads_new w6 9 [[67, 111, 110, 116, 101, 110, 116, 45, 76, 101, 110, 103, 116, 104], [53], [84, 114, 97, 110, 115, 102, 101, 114, 45, 69, 110, 99, 111, 100, 105, 110, 103], [99, 104, 117, 110, 107, 101, 100]] #[.string ⟨#[67, 111, 110, 116, 101, 110, 116, 45, 76, 101, 110, 103, 116, 104]⟩, .string ⟨#[53]⟩, .string ⟨#[84, 114, 97, 110, 115, 102, 101, 114, 45, 69, 110, 99, 111, 100, 105, 110, 103]⟩, .string ⟨#[99, 104, 117, 110, 107, 101, 100]⟩] rfl)
  have g := (Below.refl w6.heap.size w6).alloc (Nat.le_refl _) (.cells #[.string ⟨#[67, 111, 110, 116, 101, 110, 116, 45, 76, 101, 110, 103, 116, 104]⟩, .string ⟨#[53]⟩, .string ⟨#[84, 114, 97, 110, 115, 102, 101, 114, 45, 69, 110, 99, 111, 100, 105, 110, 103]⟩, .string ⟨#[99, 104, 117, 110, 107, 101, 100]⟩] 9)
  have h7 := h6.trans (g.mono h6.size)
  generalize hgw : w6.alloc (.cells #[.string ⟨#[67, 111, 110, 116, 101, 110, 116, 45, 76, 101, 110, 103, 116, 104]⟩, .string ⟨#[53]⟩, .string ⟨#[84, 114, 97, 110, 115, 102, 101, 114, 45, 69, 110, 99, 111, 100, 105, 110, 103]⟩, .string ⟨#[99, 104, 117, 110, 107, 101, 100]⟩] 9) = w7 at *
  clear hgw g h6
  (with_reducible refine (status_hit 400 _ 4 4 _ _ HS.out (by omega) (by decide) 400 kn3 rfl).mono ?_); rintro e w8 ⟨rfl, g⟩
  have h8 := h7.trans (g.mono h7.size)
  clear g h7
  clear HS
  go_wp2_with fail
  have HS := Lib.hid (reads_new w8 9 [[84, 114, 97, 110, 115, 102, 101, 114, 45, 69, 110, 99, 111, 100, 105, 110, 103], [103, 122, 105, 112, 44, 32, 99, 104, 117, 110, 107, 101, 100]] #[.string ⟨#[84, 114, 97, 110, 115, 102, 101, 114, 45, 69, 110, 99, 111, 100, 105, 110, 103]⟩, .string ⟨#[103, 122, 105, 112, 44, 32, 99, 104, 117, 110, 107, 101, 100]⟩] rfl)
  have g := (Below.refl w8.heap.size w8).alloc (Nat.le_refl _) (.cells #[.string ⟨#[84, 114, 97, 110, 115, 102, 101, 114, 45, 69, 110, 99, 111, 100, 105, 110, 103]⟩, .string ⟨#[103, 122, 105, 112, 44, 32, 99, 104, 117, 110, 107, 101, 100]⟩] 9)
  have h9 := h8.trans (g.mono h8.size)
  generalize hgw : w8.alloc (.cells #[.string ⟨#[84, 114, 97, 110, 115, 102, 101, 114, 45, 69, 110, 99, 111, 100, 105, 110, 103]⟩, .string ⟨#[103, 122, 105, 112, 44, 32, 99, 104, 117, 110, 107, 101, 100]⟩] 9) = w9 at *
  clear hgw g h8
  (with_reducible refine (status_hit 400 _ 2 2 _ _ HS.out (by omega) (by decide) 400 kn4 rfl).mono ?_); rintro e w10 ⟨rfl, g⟩
  have h10 := h9.trans (g.mono h9.size)
  clear g h9
  clear HS
  go_wp2_with fail
  have HS := Lib.hid (reads_new w10 9 [[84, 114, 97, 110, 115, 102, 101, 114, 45, 69, 110, 99, 111, 100, 105, 110, 103], [99, 104, 117, 110, 107, 101, 100], [84, 114, 97, 110, 115, 102, 101, 114, 45, 69, 110, 99, 111, 100, 105, 110, 103], [99, 104, 117, 110, 107, 101, 100]] #[.string ⟨#[84, 114, 97, 110, 115, 102, 101, 114, 45, 69, 110, 99, 111, 100, 105, 110, 103]⟩, .string ⟨#[99, 104, 117, 110, 107, 101, 100]⟩, .string ⟨#[84, 114, 97, 110, 115, 102, 101, 114, 45, 69, 110, 99, 111, 100, 105, 110, 103]⟩, .string ⟨#[99, 104, 117, 110, 107, 101, 100]⟩] rfl)
  have g := (Below.refl w10.heap.size w10).alloc (Nat.le_refl _) (.cells #[.string ⟨#[84, 114, 97, 110, 115, 102, 101, 114, 45, 69, 110, 99, 111, 100, 105, 110, 103]⟩, .string ⟨#[99, 104, 117, 110, 107, 101, 100]⟩, .string ⟨#[84, 114, 97, 110, 115, 102, 101, 114, 45, 69, 110, 99, 111, 100, 105, 110, 103]⟩, .string ⟨#[99, 104, 117, 110, 107, 101, 100]⟩] 9)
  have h11 := h10.trans (g.mono h10.size)
  generalize hgw : w10.alloc (.cells #[.string ⟨#[84, 114, 97, 110, 115, 102, 101, 114, 45, 69, 110, 99, 111, 100, 105, 110, 103]⟩, .string ⟨#[99, 104, 117, 110, 107, 101, 100]⟩, .string ⟨#[84, 114, 97, 110, 115, 102, 101, 114, 45, 69, 110, 99, 111, 100, 105, 110, 103]⟩, .string ⟨#[99, 104, 117, 110, 107, 101, 100]⟩] 9) = w11 at *
  clear hgw g h10
  (with_reducible refine (status_hit 400 _ 4 4 _ _ HS.out (by omega) (by decide) 400 kn5 rfl).mono ?_); rintro e w12 ⟨rfl, g⟩
  have h12 := h11.trans (g.mono h11.size)
  clear g h11
  clear HS
  go_wp2_with fail
  have HS := Lib.hid (reads_new w12 9 [[67, 111, 110, 116, 101, 110, 116, 45, 76, 101, 110, 103, 116, 104], []] #[.string ⟨#[67, 111, 110, 116, 101, 110, 116, 45, 76, 101, 110, 103, 116, 104]⟩, .string ⟨#[]⟩] rfl)
  have g := (Below.refl w12.heap.size w12).alloc (Nat.le_refl _) (.cells #[.string ⟨#[67, 111, 110, 116, 101, 110, 116, 45, 76, 101, 110, 103, 116, 104]⟩, .string ⟨#[]⟩] 9)
  have h13 := h12.trans (g.mono h12.size)
  generalize hgw : w12.alloc (.cells #[.string ⟨#[67, 111, 110, 116, 101, 110, 116, 45, 76, 101, 110, 103, 116, 104]⟩, .string ⟨#[]⟩] 9) = w13 at *
  clear hgw g h12
  (with_reducible refine (status_hit 400 _ 2 2 _ _ HS.out (by omega) (by decide) 400 kn6 rfl).mono ?_); rintro e w14 ⟨rfl, g⟩
  have h14 := h13.trans (g.mono h13.size)
  clear g h13
  clear HS
  go_wp2_with fail
  have HS := Lib.hid (reads_new w14 9 [[67, 111, 110, 116, 101, 110, 116, 45, 76, 101, 110, 103, 116, 104], [49, 44, 32, 50], [67, 111, 110, 116, 101, 110, 116, 45, 76, 101, 110, 103, 116, 104], [49]] #[.string ⟨#[67, 111, 110, 116, 101, 110, 116, 45, 76, 101, 110, 103, 116, 104]⟩, .string ⟨#[49, 44, 32, 50]⟩, .string ⟨#[67, 111, 110, 116, 101, 110, 116, 45, 76, 101, 110, 103, 116, 104]⟩, .string ⟨#[49]⟩] rfl)
  have g := (Below.refl w14.heap.size w14).alloc (Nat.le_refl _) (.cells #[.string ⟨#[67, 111, 110, 116, 101, 110, 116, 45, 76, 101, 110, 103, 116, 104]⟩, .string ⟨#[49, 44, 32, 50]⟩, .string ⟨#[67, 111, 110, 116, 101, 110, 116, 45, 76, 101, 110, 103, 116, 104]⟩, .string ⟨#[49]⟩] 9)
  have h15 := h14.trans (g.mono h14.size)
  generalize hgw : w14.alloc (.cells #[.string ⟨#[67, 111, 110, 116, 101, 110, 116, 45, 76, 101, 110, 103, 116, 104]⟩, .string ⟨#[49, 44, 32, 50]⟩, .string ⟨#[67, 111, 110, 116, 101, 110, 116, 45, 76, 101, 110, 103, 116, 104]⟩, .string ⟨#[49]⟩] 9) = w15 at *
  clear hgw g h14
  (with_reducible refine (kFl _ 4 4 [[67, 111, 110, 116, 101, 110, 116, 45, 76, 101, 110, 103, 116, 104], [49, 44, 32, 50], [67, 111, 110, 116, 101, 110, 116, 45, 76, 101, 110, 103, 116, 104], [49]] 2 rfl _ HS.out (by omega)).mono ?_); rintro e w16 ⟨B1, d1, rfl, hr, g⟩
  have h16 := h15.trans (g.mono h15.size)
  have R1 := Lib.hid hr
  clear hr
  clear g h15
  clear HS
  go_wp2_with fail
  (with_reducible refine (kLen _ _ _ R1.out).mono ?_); rintro e w17 ⟨B2, d2, rfl, hr, g⟩
  have h17 := h16.trans (g.mono h16.size)
  have R1 := Lib.hid ((R1.out.below g).more g.size)
  have LN := Lib.hid hr
  clear hr
  clear g h16
  clear R1
  go_wp2_with fail
  have HS := Lib.hid (reads_new w17 9 [[84, 114, 97, 110, 115, 102, 101, 114, 45, 69, 110, 99, 111, 100, 105, 110, 103], [103, 122, 105, 112]] #[.string ⟨#[84, 114, 97, 110, 115, 102, 101, 114, 45, 69, 110, 99, 111, 100, 105, 110, 103]⟩, .string ⟨#[103, 122, 105, 112]⟩] rfl)
  have g := (Below.refl w17.heap.size w17).alloc (Nat.le_refl _) (.cells #[.string ⟨#[84, 114, 97, 110, 115, 102, 101, 114, 45, 69, 110, 99, 111, 100, 105, 110, 103]⟩, .string ⟨#[103, 122, 105, 112]⟩] 9)
  have h18 := h17.trans (g.mono h17.size)
  have LN := Lib.hid ((LN.out.below g).more g.size)
  generalize hgw : w17.alloc (.cells #[.string ⟨#[84, 114, 97, 110, 115, 102, 101, 114, 45, 69, 110, 99, 111, 100, 105, 110, 103]⟩, .string ⟨#[103, 122, 105, 112]⟩] 9) = w18 at *
  clear hgw g h17
  (with_reducible refine (kFl _ 2 2 [[84, 114, 97, 110, 115, 102, 101, 114, 45, 69, 110, 99, 111, 100, 105, 110, 103], [103, 122, 105, 112]] 1 rfl _ HS.out (by omega)).mono ?_); rintro e w19 ⟨B3, d3, rfl, hr, g⟩
  have h19 := h18.trans (g.mono h18.size)
  have LN := Lib.hid ((LN.out.below g).more g.size)
  have R1 := Lib.hid hr
  clear hr
  clear g h18
  clear HS
  go_wp2_with fail
  (with_reducible refine (kChk _ _ _ R1.out).mono ?_); rintro e w20 ⟨rfl, g⟩
  have h20 := h19.trans (g.mono h19.size)
  have LN := Lib.hid ((LN.out.below g).more g.size)
  have R1 := Lib.hid ((R1.out.below g).more g.size)
  clear g h19
  clear R1
  go_wp2_with fail
  (with_reducible refine (kF1 _ (TB.out _ h20)).mono ?_); rintro e w21 ⟨B4, d4, rfl, hr, g⟩
  have h21 := h20.trans (g.mono h20.size)
  have LN := Lib.hid ((LN.out.below g).more g.size)
  have FA := Lib.hid hr
  clear hr
  clear g h20
  go_wp2_with fail
  (with_reducible refine (kF2 _ (TB.out _ h21)).mono ?_); rintro e w22 ⟨B5, d5, rfl, g⟩
  have h22 := h21.trans (g.mono h21.size)
  have LN := Lib.hid ((LN.out.below g).more g.size)
  have FA := Lib.hid ((FA.out.below g).more g.size)
  clear g h21
  go_wp2_with fail
  have HS := Lib.hid (reads_intsN w22 3 [1, 2, 1] #[.int .i64 1, .int .i64 2, .int .i64 1] rfl)
  have g := (Below.refl w22.heap.size w22).alloc (Nat.le_refl _) (.cells #[.int .i64 1, .int .i64 2, .int .i64 1] 3)
  have h23 := h22.trans (g.mono h22.size)
  have LN := Lib.hid ((LN.out.below g).more g.size)
  have FA := Lib.hid ((FA.out.below g).more g.size)
  generalize hgw : w22.alloc (.cells #[.int .i64 1, .int .i64 2, .int .i64 1] 3) = w23 at *
  clear hgw g h22
  (with_reducible refine (SameInts_eq _ _ 3 _ _ [1, 2, 1] _ LN.out HS.out (by omega)).mono ?_); rintro e w24 ⟨rfl, g⟩
  have h24 := h23.trans (g.mono h23.size)
  have LN := Lib.hid ((LN.out.below g).more g.size)
  have FA := Lib.hid ((FA.out.below g).more g.size)
  clear g h23
  clear HS LN
  go_wp2_with fail
  have HS := Lib.hid (reads_new w24 9 [[67, 111, 110, 116, 101, 110, 116, 45, 76, 101, 110, 103, 116, 104], [53]] #[.string ⟨#[67, 111, 110, 116, 101, 110, 116, 45, 76, 101, 110, 103, 116, 104]⟩, .string ⟨#[53]⟩] rfl)
  have g := (Below.refl w24.heap.size w24).alloc (Nat.le_refl _) (.cells #[.string ⟨#[67, 111, 110, 116, 101, 110, 116, 45, 76, 101, 110, 103, 116, 104]⟩, .string ⟨#[53]⟩] 9)
  have h25 := h24.trans (g.mono h24.size)
  have FA := Lib.hid ((FA.out.below g).more g.size)
  generalize hgw : w24.alloc (.cells #[.string ⟨#[67, 111, 110, 116, 101, 110, 116, 45, 76, 101, 110, 103, 116, 104]⟩, .string ⟨#[53]⟩] 9) = w25 at *
  clear hgw g h24
  (with_reducible refine (kFl _ 2 2 [[67, 111, 110, 116, 101, 110, 116, 45, 76, 101, 110, 103, 116, 104], [53]] 1 rfl _ HS.out (by omega)).mono ?_); rintro e w26 ⟨B6, d6, rfl, hr, g⟩
  have h26 := h25.trans (g.mono h25.size)
  have FA := Lib.hid ((FA.out.below g).more g.size)
  have FB := Lib.hid hr
  clear hr
  clear g h25
  clear HS
  have cS := SameFields_any B4 B6 1 1 d4 d6 (pairL [[67, 111, 110, 116, 101, 110, 116, 45, 76, 101, 110, 103, 116, 104], [53]]) (pairL [[67, 111, 110, 116, 101, 110, 116, 45, 76, 101, 110, 103, 116, 104], [53]]) w26 FA.out FB.out (by omega) (by omega)
  rw [decide_eq_true rfl] at cS
  have CS := Lib.hid cS
  clear cS FA FB
  go_wp2_with fail
  (with_reducible refine (CS.out).mono ?_); rintro e w27 ⟨rfl, m27, rfl⟩
  have g := below_drewN (Below.refl w26.heap.size w26) m27
  have h27 := h26.trans (g.mono h26.size)
  generalize hgw : w26.drewN m27 = w27 at *
  clear hgw
  clear g h26
  clear CS
  go_wp2_with fail
  (with_reducible refine (kC 2 2049 2 (by decide) _).mono ?_); rintro e w28 ⟨rfl, g⟩
  have h28 := h27.trans (g.mono h27.size)
  clear g h27
  go_wp2_with fail
  (with_reducible refine (kC 4 0 10 (by decide) _).mono ?_); rintro e w29 ⟨rfl, g⟩
  have h29 := h28.trans (g.mono h28.size)
  clear g h28
  go_wp2_with fail
  (with_reducible refine (kC 1 1 2 (by decide) _).mono ?_); rintro e w30 ⟨rfl, g⟩
  have h30 := h29.trans (g.mono h29.size)
  clear g h29
  have CB := Lib.hid (bytes_hit 3 0 ⟨#[]⟩ ⟨#[48, 13, 10, 13, 10]⟩ w30 (TB.out _ h30) (by decide) kn11)
  go_wp2_with fail
  (with_reducible refine (CB.out).mono ?_); rintro e w31 ⟨rfl, g⟩
  have h31 := h30.trans (g.mono h30.size)
  clear g h30
  clear CB
  go_wp2_with fail
  (with_reducible refine (kB _ (TB.out _ h31)).mono ?_); rintro e w32 ⟨rfl, g⟩
  have h32 := h31.trans (g.mono h31.size)
  clear g h31
  go_wp2_with fail
  (with_reducible refine (kL 2 5 3 2 0 0 kn13 rfl _).mono ?_); rintro e w33 ⟨rfl, g⟩
  have h33 := h32.trans (g.mono h32.size)
  clear g h32
  go_wp2_with fail
  (with_reducible refine (kL 3 0 9 (-1) 0 0 kn14 rfl _).mono ?_); rintro e w34 ⟨rfl, g⟩
  have h34 := h33.trans (g.mono h33.size)
  clear g h33
  go_wp2_with fail
  (with_reducible refine (kL 1 0 1 0 2 2 kn15 rfl _).mono ?_); rintro e w35 ⟨rfl, g⟩
  have h35 := h34.trans (g.mono h34.size)
  clear g h34
  have AW := Lib.hid (awake09 w35 (TB.out _ h35))
  go_wp2_with fail
  (with_reducible refine (AW.out).mono ?_); rintro e w36 ⟨rfl, g⟩
  have h36 := h35.trans (g.mono h35.size)
  clear g h35
  clear AW
  go_wp2_with fail
  go_ret
  exact ⟨rfl, h36⟩
end Go.Proofs.YtpdohlnobbimaaaDoor
