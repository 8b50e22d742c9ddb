/-
  waypostlaw11.WireKnown is true.
-/
import Derived.Test.YtencphfhpnljlaaGreatDoorLw2
import Derived.Test.YtencphfhpnljlaaGreatDoorLw3
namespace Go.Proofs.YtencphfhpnljlaaGreatDoor
open Go.RowKit

/-- one example, as the walk meets it: the kinds lie in a new block -/
theorem tells_new {S : List UInt8} {status : Nat} {body : List UInt8} {kinds : List Nat} (h : tellsW S status body kinds = true) (hS : S.length ≤ 20000) (V : World) (hT : TabW V) (cs : Array Value) (hc : cs.toList = ints kinds) (n : Nat) (hn : n = kinds.length) :
    Calls Tryz.prog 17 #[.string (bs S), .int .i64 (status : Nat), .string (bs body), .slice (some ⟨V.heap.size, 0, none⟩) n n] (V.alloc (.cells cs 3)) fun e w' => e = .returned (.bool true) ∧ Below V.heap.size V w' := by
  have b1 := (Below.refl V.heap.size V).alloc (Nat.le_refl _) (.cells cs 3)
  subst hn
  refine (pTells S status _ rfl body kinds (some ⟨V.heap.size, 0, none⟩) kinds.length kinds.length _ (reads_ints V kinds cs hc) h hS (hT.below b1)).mono ?_
  rintro e w' ⟨rfl, g⟩
  exact ⟨rfl, b1.trans (g.mono b1.size)⟩
set_option maxRecDepth 100000 in
set_option maxHeartbeats 16000000 in
theorem WireKnown_true (w : World) (hT : TabW w) : Calls Tryz.prog 5 #[] w fun e w' => e = .returned (.bool true) ∧ Below w.heap.size w w' := by
  have C1 := Lib.hid (show ∀ V, Below w.heap.size w V → Calls Tryz.prog 17 #[.string ⟨#[80, 79, 83, 84, 32, 47, 120, 32, 72, 84, 84, 80, 47, 49, 46, 49, 13, 10, 67, 111, 110, 116, 101, 110, 116, 45, 76, 101, 110, 103, 116, 104, 58, 32, 51, 13, 10, 13, 10, 97, 98, 99]⟩, .int .i64 0, .string ⟨#[97, 98, 99]⟩, .slice (some ⟨V.heap.size, 0, none⟩) 3 3] (V.alloc (.cells #[.int .i64 1, .int .i64 2, .int .i64 3] 3)) fun e w' => e = .returned (.bool true) ∧ Below V.heap.size V w' from fun V hV => tells_new (S := [80, 79, 83, 84, 32, 47, 120, 32, 72, 84, 84, 80, 47, 49, 46, 49, 13, 10, 67, 111, 110, 116, 101, 110, 116, 45, 76, 101, 110, 103, 116, 104, 58, 32, 51, 13, 10, 13, 10, 97, 98, 99]) (status := 0) (body := [97, 98, 99]) (kinds := [1, 2, 3]) kw1 (by decide) V (hT.below hV) #[.int .i64 1, .int .i64 2, .int .i64 3] rfl 3 rfl)
  have C2 := Lib.hid (show ∀ V, Below w.heap.size w V → Calls Tryz.prog 17 #[.string ⟨#[80, 79, 83, 84, 32, 47, 120, 32, 72, 84, 84, 80, 47, 49, 46, 49, 13, 10, 67, 111, 110, 116, 101, 110, 116, 45, 76, 101, 110, 103, 116, 104, 58, 32, 51, 13, 10, 13, 10, 97, 98, 99, 71, 69, 84, 32, 47, 32, 72, 84, 84, 80, 47, 49, 46, 49, 13, 10]⟩, .int .i64 0, .string ⟨#[]⟩, .slice (some ⟨V.heap.size, 0, none⟩) 4 4] (V.alloc (.cells #[.int .i64 1, .int .i64 2, .int .i64 3, .int .i64 1] 3)) fun e w' => e = .returned (.bool true) ∧ Below V.heap.size V w' from fun V hV => tells_new (S := [80, 79, 83, 84, 32, 47, 120, 32, 72, 84, 84, 80, 47, 49, 46, 49, 13, 10, 67, 111, 110, 116, 101, 110, 116, 45, 76, 101, 110, 103, 116, 104, 58, 32, 51, 13, 10, 13, 10, 97, 98, 99, 71, 69, 84, 32, 47, 32, 72, 84, 84, 80, 47, 49, 46, 49, 13, 10]) (status := 0) (body := []) (kinds := [1, 2, 3, 1]) kw2 (by decide) V (hT.below hV) #[.int .i64 1, .int .i64 2, .int .i64 3, .int .i64 1] rfl 4 rfl)
  have C3 := Lib.hid (show ∀ V, Below w.heap.size w V → Calls Tryz.prog 17 #[.string ⟨#[80, 79, 83, 84, 32, 47, 32, 72, 84, 84, 80, 47, 49, 46, 49, 13, 10, 67, 111, 110, 116, 101, 110, 116, 45, 76, 101, 110, 103, 116, 104, 58, 32, 50, 48, 52, 57, 13, 10, 13, 10]⟩, .int .i64 413, .string ⟨#[]⟩, .slice (some ⟨V.heap.size, 0, none⟩) 3 3] (V.alloc (.cells #[.int .i64 1, .int .i64 2, .int .i64 4] 3)) fun e w' => e = .returned (.bool true) ∧ Below V.heap.size V w' from fun V hV => tells_new (S := [80, 79, 83, 84, 32, 47, 32, 72, 84, 84, 80, 47, 49, 46, 49, 13, 10, 67, 111, 110, 116, 101, 110, 116, 45, 76, 101, 110, 103, 116, 104, 58, 32, 50, 48, 52, 57, 13, 10, 13, 10]) (status := 413) (body := []) (kinds := [1, 2, 4]) kw3 (by decide) V (hT.below hV) #[.int .i64 1, .int .i64 2, .int .i64 4] rfl 3 rfl)
  have C4 := Lib.hid (show ∀ V, Below w.heap.size w V → Calls Tryz.prog 17 #[.string ⟨#[80, 79, 83, 84, 32, 47, 32, 72, 84, 84, 80, 47, 49, 46, 49, 13, 10, 67, 111, 110, 116, 101, 110, 116, 45, 76, 101, 110, 103, 116, 104, 58, 32, 120, 13, 10, 13, 10]⟩, .int .i64 400, .string ⟨#[]⟩, .slice (some ⟨V.heap.size, 0, none⟩) 3 3] (V.alloc (.cells #[.int .i64 1, .int .i64 2, .int .i64 4] 3)) fun e w' => e = .returned (.bool true) ∧ Below V.heap.size V w' from fun V hV => tells_new (S := [80, 79, 83, 84, 32, 47, 32, 72, 84, 84, 80, 47, 49, 46, 49, 13, 10, 67, 111, 110, 116, 101, 110, 116, 45, 76, 101, 110, 103, 116, 104, 58, 32, 120, 13, 10, 13, 10]) (status := 400) (body := []) (kinds := [1, 2, 4]) kw4 (by decide) V (hT.below hV) #[.int .i64 1, .int .i64 2, .int .i64 4] rfl 3 rfl)
  have C5 := Lib.hid (show ∀ V, Below w.heap.size w V → Calls Tryz.prog 17 #[.string ⟨#[71, 69, 84, 32, 47, 32, 72, 84, 84, 80, 47, 49, 46, 48, 13, 10]⟩, .int .i64 400, .string ⟨#[]⟩, .slice (some ⟨V.heap.size, 0, none⟩) 1 1] (V.alloc (.cells #[.int .i64 4] 3)) fun e w' => e = .returned (.bool true) ∧ Below V.heap.size V w' from fun V hV => tells_new (S := [71, 69, 84, 32, 47, 32, 72, 84, 84, 80, 47, 49, 46, 48, 13, 10]) (status := 400) (body := []) (kinds := [4]) kw5 (by decide) V (hT.below hV) #[.int .i64 4] rfl 1 rfl)
  have C6 := Lib.hid (show ∀ V, Below w.heap.size w V → Calls Tryz.prog 17 #[.string ⟨#[71, 69, 84, 32, 47, 32, 72, 84, 84, 80, 47, 49, 46, 49, 10]⟩, .int .i64 400, .string ⟨#[]⟩, .slice (some ⟨V.heap.size, 0, none⟩) 1 1] (V.alloc (.cells #[.int .i64 4] 3)) fun e w' => e = .returned (.bool true) ∧ Below V.heap.size V w' from fun V hV => tells_new (S := [71, 69, 84, 32, 47, 32, 72, 84, 84, 80, 47, 49, 46, 49, 10]) (status := 400) (body := []) (kinds := [4]) kw6 (by decide) V (hT.below hV) #[.int .i64 4] rfl 1 rfl)
  have C7 := Lib.hid (show ∀ V, Below w.heap.size w V → Calls Tryz.prog 17 #[.string ⟨#[71, 69, 84, 32, 47, 32, 72, 84, 84, 80, 47, 49, 46, 49, 13, 10, 32, 13, 10]⟩, .int .i64 400, .string ⟨#[]⟩, .slice (some ⟨V.heap.size, 0, none⟩) 2 2] (V.alloc (.cells #[.int .i64 1, .int .i64 4] 3)) fun e w' => e = .returned (.bool true) ∧ Below V.heap.size V w' from fun V hV => tells_new (S := [71, 69, 84, 32, 47, 32, 72, 84, 84, 80, 47, 49, 46, 49, 13, 10, 32, 13, 10]) (status := 400) (body := []) (kinds := [1, 4]) kw7 (by decide) V (hT.below hV) #[.int .i64 1, .int .i64 4] rfl 2 rfl)
  have C8 := Lib.hid (show ∀ V, Below w.heap.size w V → Calls Tryz.prog 17 #[.string ⟨#[71, 69, 84, 32, 47, 32, 72, 84, 84, 80, 47, 49, 46, 49, 13, 10, 97, 58, 32, 98, 10]⟩, .int .i64 400, .string ⟨#[]⟩, .slice (some ⟨V.heap.size, 0, none⟩) 2 2] (V.alloc (.cells #[.int .i64 1, .int .i64 4] 3)) fun e w' => e = .returned (.bool true) ∧ Below V.heap.size V w' from fun V hV => tells_new (S := [71, 69, 84, 32, 47, 32, 72, 84, 84, 80, 47, 49, 46, 49, 13, 10, 97, 58, 32, 98, 10]) (status := 400) (body := []) (kinds := [1, 4]) kw8 (by decide) V (hT.below hV) #[.int .i64 1, .int .i64 4] rfl 2 rfl)
  obtain ⟨U9, hU9⟩ : ∃ U, bs (timesT [120] 1024) = U := ⟨_, rfl⟩
  have zu9 : U9.size ≤ 2000 := by rw [← hU9, bs_size, times_len]; decide
  have CM9 := Lib.hid (fun X => pTimes [120] 1024 1024 rfl X (by decide) (by omega))
  rw [hU9] at CM9
  rw [show bs [120] = ⟨#[120]⟩ from rfl] at CM9
  obtain ⟨T9, hT9⟩ : ∃ T, bs ([71, 69, 84, 32, 47] ++ timesT [120] 1024) = T := ⟨_, rfl⟩
  have hc9 : ⟨#[71, 69, 84, 32, 47]⟩ ++ U9 = T9 := by rw [← hU9, ← hT9, show (⟨#[71, 69, 84, 32, 47]⟩ : ByteArray) = bs [71, 69, 84, 32, 47] from rfl, bs_cat]
  have c9 := fun V (hV : Below w.heap.size w V) => tells_new (S := ([71, 69, 84, 32, 47] ++ timesT [120] 1024)) (status := 414) (body := []) (kinds := [4]) kw9 (by simp [times_len]) V (hT.below hV) #[.int .i64 4] rfl 1 rfl
  rw [hT9] at c9
  have C9 := Lib.hid (show ∀ V, Below w.heap.size w V → Calls Tryz.prog 17 #[.string T9, .int .i64 414, .string ⟨#[]⟩, .slice (some ⟨V.heap.size, 0, none⟩) 1 1] (V.alloc (.cells #[.int .i64 4] 3)) fun e w' => e = .returned (.bool true) ∧ Below V.heap.size V w' from c9)
  clear c9 hT9 hU9
  have C10 := Lib.hid (show ∀ V, Below w.heap.size w V → Calls Tryz.prog 17 #[.string ⟨#[65, 66, 67, 68, 69, 70, 71, 72, 73, 74, 75, 76, 77, 78, 79, 80, 81]⟩, .int .i64 400, .string ⟨#[]⟩, .slice (some ⟨V.heap.size, 0, none⟩) 1 1] (V.alloc (.cells #[.int .i64 4] 3)) fun e w' => e = .returned (.bool true) ∧ Below V.heap.size V w' from fun V hV => tells_new (S := [65, 66, 67, 68, 69, 70, 71, 72, 73, 74, 75, 76, 77, 78, 79, 80, 81]) (status := 400) (body := []) (kinds := [4]) kw10 (by decide) V (hT.below hV) #[.int .i64 4] rfl 1 rfl)
  obtain ⟨U11, hU11⟩ : ∃ U, bs (timesT [120] 511) = U := ⟨_, rfl⟩
  have zu11 : U11.size ≤ 2000 := by rw [← hU11, bs_size, times_len]; decide
  have CM11 := Lib.hid (fun X => pTimes [120] 511 511 rfl X (by decide) (by omega))
  rw [hU11] at CM11
  rw [show bs [120] = ⟨#[120]⟩ from rfl] at CM11
  obtain ⟨T11, hT11⟩ : ∃ T, bs ([71, 69, 84, 32, 47, 32, 72, 84, 84, 80, 47, 49, 46, 49, 13, 10, 97, 58] ++ timesT [120] 511) = T := ⟨_, rfl⟩
  have hc11 : ⟨#[71, 69, 84, 32, 47, 32, 72, 84, 84, 80, 47, 49, 46, 49, 13, 10, 97, 58]⟩ ++ U11 = T11 := by rw [← hU11, ← hT11, show (⟨#[71, 69, 84, 32, 47, 32, 72, 84, 84, 80, 47, 49, 46, 49, 13, 10, 97, 58]⟩ : ByteArray) = bs [71, 69, 84, 32, 47, 32, 72, 84, 84, 80, 47, 49, 46, 49, 13, 10, 97, 58] from rfl, bs_cat]
  have c11 := fun V (hV : Below w.heap.size w V) => tells_new (S := ([71, 69, 84, 32, 47, 32, 72, 84, 84, 80, 47, 49, 46, 49, 13, 10, 97, 58] ++ timesT [120] 511)) (status := 431) (body := []) (kinds := [1, 4]) kw11 (by simp [times_len]) V (hT.below hV) #[.int .i64 1, .int .i64 4] rfl 2 rfl
  rw [hT11] at c11
  have C11 := Lib.hid (show ∀ V, Below w.heap.size w V → Calls Tryz.prog 17 #[.string T11, .int .i64 431, .string ⟨#[]⟩, .slice (some ⟨V.heap.size, 0, none⟩) 2 2] (V.alloc (.cells #[.int .i64 1, .int .i64 4] 3)) fun e w' => e = .returned (.bool true) ∧ Below V.heap.size V w' from c11)
  clear c11 hT11 hU11
  obtain ⟨U12, hU12⟩ : ∃ U, bs (timesT [97, 58, 32, 98, 13, 10] 32) = U := ⟨_, rfl⟩
  have zu12 : U12.size ≤ 2000 := by rw [← hU12, bs_size, times_len]; decide
  have CM12 := Lib.hid (fun X => pTimes [97, 58, 32, 98, 13, 10] 32 32 rfl X (by decide) (by omega))
  rw [hU12] at CM12
  rw [show bs [97, 58, 32, 98, 13, 10] = ⟨#[97, 58, 32, 98, 13, 10]⟩ from rfl] at CM12
  obtain ⟨T12, hT12⟩ : ∃ T, bs ([71, 69, 84, 32, 47, 32, 72, 84, 84, 80, 47, 49, 46, 49, 13, 10] ++ timesT [97, 58, 32, 98, 13, 10] 32 ++ [120]) = T := ⟨_, rfl⟩
  have hc12 : ⟨#[71, 69, 84, 32, 47, 32, 72, 84, 84, 80, 47, 49, 46, 49, 13, 10]⟩ ++ U12 ++ ⟨#[120]⟩ = T12 := by rw [← hU12, ← hT12, show (⟨#[71, 69, 84, 32, 47, 32, 72, 84, 84, 80, 47, 49, 46, 49, 13, 10]⟩ : ByteArray) = bs [71, 69, 84, 32, 47, 32, 72, 84, 84, 80, 47, 49, 46, 49, 13, 10] from rfl, bs_cat, show (⟨#[120]⟩ : ByteArray) = bs [120] from rfl, bs_cat]
  have c12 := fun V (hV : Below w.heap.size w V) => tells_new (S := ([71, 69, 84, 32, 47, 32, 72, 84, 84, 80, 47, 49, 46, 49, 13, 10] ++ timesT [97, 58, 32, 98, 13, 10] 32 ++ [120])) (status := 431) (body := []) (kinds := [1, 4]) kw12 (by simp [times_len]) V (hT.below hV) #[.int .i64 1, .int .i64 4] rfl 2 rfl
  rw [hT12] at c12
  have C12 := Lib.hid (show ∀ V, Below w.heap.size w V → Calls Tryz.prog 17 #[.string T12, .int .i64 431, .string ⟨#[]⟩, .slice (some ⟨V.heap.size, 0, none⟩) 2 2] (V.alloc (.cells #[.int .i64 1, .int .i64 4] 3)) fun e w' => e = .returned (.bool true) ∧ Below V.heap.size V w' from c12)
  clear c12 hT12 hU12
  have C13 := Lib.hid (show ∀ V, Below w.heap.size w V → Calls Tryz.prog 17 #[.string ⟨#[80, 79, 83, 84, 32, 47, 32, 72, 84, 84, 80, 47, 49, 46, 49, 13, 10, 84, 114, 97, 110, 115, 102, 101, 114, 45, 69, 110, 99, 111, 100, 105, 110, 103, 58, 32, 99, 104, 117, 110, 107, 101, 100, 13, 10, 13, 10, 50, 13, 10, 97, 98, 13, 10, 48, 13, 10, 13, 10]⟩, .int .i64 0, .string ⟨#[97, 98]⟩, .slice (some ⟨V.heap.size, 0, none⟩) 3 3] (V.alloc (.cells #[.int .i64 1, .int .i64 2, .int .i64 3] 3)) fun e w' => e = .returned (.bool true) ∧ Below V.heap.size V w' from fun V hV => tells_new (S := [80, 79, 83, 84, 32, 47, 32, 72, 84, 84, 80, 47, 49, 46, 49, 13, 10, 84, 114, 97, 110, 115, 102, 101, 114, 45, 69, 110, 99, 111, 100, 105, 110, 103, 58, 32, 99, 104, 117, 110, 107, 101, 100, 13, 10, 13, 10, 50, 13, 10, 97, 98, 13, 10, 48, 13, 10, 13, 10]) (status := 0) (body := [97, 98]) (kinds := [1, 2, 3]) kw13 (by decide) V (hT.below hV) #[.int .i64 1, .int .i64 2, .int .i64 3] rfl 3 rfl)
  have CA := Lib.hid (fun V (hV : Below w.heap.size w V) => awake11 V (hT.below hV))
  have G := Lib.hid (Below.refl w.heap.size w)
  clear hT
  go_enter Tryz.func5, Tryz.ntmps5
  go_wp2_with fail
  (with_reducible refine (C1.out _ G.out).mono ?_); rintro e w1 ⟨rfl, g1⟩
  have G := Lib.hid (G.out.trans (g1.mono G.out.size))
  clear g1 C1
  go_wp2_with fail
  (with_reducible refine (C2.out _ G.out).mono ?_); rintro e w2 ⟨rfl, g2⟩
  have G := Lib.hid (G.out.trans (g2.mono G.out.size))
  clear g2 C2
  go_wp2_with fail
  (with_reducible refine (C3.out _ G.out).mono ?_); rintro e w3 ⟨rfl, g3⟩
  have G := Lib.hid (G.out.trans (g3.mono G.out.size))
  clear g3 C3
  go_wp2_with fail
  (with_reducible refine (C4.out _ G.out).mono ?_); rintro e w4 ⟨rfl, g4⟩
  have G := Lib.hid (G.out.trans (g4.mono G.out.size))
  clear g4 C4
  go_wp2_with fail
  (with_reducible refine (C5.out _ G.out).mono ?_); rintro e w5 ⟨rfl, g5⟩
  have G := Lib.hid (G.out.trans (g5.mono G.out.size))
  clear g5 C5
  go_wp2_with fail
  (with_reducible refine (C6.out _ G.out).mono ?_); rintro e w6 ⟨rfl, g6⟩
  have G := Lib.hid (G.out.trans (g6.mono G.out.size))
  clear g6 C6
  go_wp2_with fail
  (with_reducible refine (C7.out _ G.out).mono ?_); rintro e w7 ⟨rfl, g7⟩
  have G := Lib.hid (G.out.trans (g7.mono G.out.size))
  clear g7 C7
  go_wp2_with fail
  (with_reducible refine (C8.out _ G.out).mono ?_); rintro e w8 ⟨rfl, g8⟩
  have G := Lib.hid (G.out.trans (g8.mono G.out.size))
  clear g8 C8
  go_wp2_with fail
  (with_reducible refine (CM9.out _).mono ?_); rintro e v ⟨rfl, rfl⟩
  go_wp2_with fail
  (with_reducible refine (C9.out _ G.out).mono ?_); rintro e w9 ⟨rfl, g9⟩
  have G := Lib.hid (G.out.trans (g9.mono G.out.size))
  clear g9 C9
  go_wp2_with fail
  (with_reducible refine (C10.out _ G.out).mono ?_); rintro e w10 ⟨rfl, g10⟩
  have G := Lib.hid (G.out.trans (g10.mono G.out.size))
  clear g10 C10
  go_wp2_with fail
  (with_reducible refine (CM11.out _).mono ?_); rintro e v ⟨rfl, rfl⟩
  go_wp2_with fail
  (with_reducible refine (C11.out _ G.out).mono ?_); rintro e w11 ⟨rfl, g11⟩
  have G := Lib.hid (G.out.trans (g11.mono G.out.size))
  clear g11 C11
  go_wp2_with fail
  (with_reducible refine (CM12.out _).mono ?_); rintro e v ⟨rfl, rfl⟩
  go_wp2_with fail
  (with_reducible refine (C12.out _ G.out).mono ?_); rintro e w12 ⟨rfl, g12⟩
  have G := Lib.hid (G.out.trans (g12.mono G.out.size))
  clear g12 C12
  go_wp2_with fail
  (with_reducible refine (C13.out _ G.out).mono ?_); rintro e w13 ⟨rfl, g13⟩
  have G := Lib.hid (G.out.trans (g13.mono G.out.size))
  clear g13 C13
  go_wp2_with fail
  (with_reducible refine (CA.out _ G.out).mono ?_); rintro e w14 ⟨rfl, g14⟩
  go_wp2_with fail
  go_ret
  exact ⟨rfl, G.out.trans (g14.mono G.out.size)⟩
end Go.Proofs.YtencphfhpnljlaaGreatDoor
