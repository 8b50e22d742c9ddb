/-
  made: a valid framing made of numbers.
-/
import Derived.Test.YtpdohlnobbimaaaDoorFrA
import Derived.Test.YtpdohlnobbimaaaDoorKt2
namespace Go.Proofs.YtpdohlnobbimaaaDoor
open Go.RowKit

/-- what Mod returns -/
def modV (n m : Int) : Int := if 0 ≤ n then n % m else if n.tmod m < 0 then n.tmod m + m else n.tmod m
theorem modV_at (n m : Int) (hm : 1 ≤ m) : 0 ≤ modV n m ∧ modV n m < m := by
  have u1 := Int.tmod_lt_of_pos n (show 0 < m by omega)
  have u2 := Int.lt_tmod_of_pos n (show 0 < m by omega)
  have hr := Int.emod_nonneg n (show m ≠ 0 by omega)
  have hr2 := Int.emod_lt_of_pos n (show 0 < m by omega)
  unfold modV
  split
  · exact ⟨hr, hr2⟩
  · split <;> omega
theorem Mod_is (n m : Int) (w : World) (hn1 : -9223372036854775808 ≤ n) (hn2 : n ≤ 9223372036854775807) (hm : 1 ≤ m) (hm2 : m ≤ 1099511627776) :
    Calls Tryd.prog 39 #[.int .i64 n, .int .i64 m] w fun e w' => e = .returned (.int .i64 (modV n m)) ∧ w = w' := by
  have d1 : decide (m < 1) = false := by simp; omega
  have u1 := Int.tmod_lt_of_pos n (show 0 < m by omega)
  have u2 := Int.lt_tmod_of_pos n (show 0 < m by omega)
  unfold modV
  by_cases hp : 0 ≤ n
  · have hr := Int.emod_nonneg n (show m ≠ 0 by omega)
    have hr2 := Int.emod_lt_of_pos n (show 0 < m by omega)
    have d2 : decide (n % m < 0) = false := by simp; omega
    rw [if_pos hp]
    clear u1 u2
    go_enter Tryd.func39, Tryd.ntmps39
    go_wp2_with fail
    go_ret
    exact ⟨rfl, rfl⟩
  · have hneg : n < 0 := by omega
    rw [if_neg hp]
    by_cases h0 : n.tmod m < 0
    · have d2 : decide (n.tmod m < 0) = true := by simpa using h0
      rw [if_pos h0]
      go_enter Tryd.func39, Tryd.ntmps39
      go_wp2_with fail
      go_ret
      exact ⟨rfl, rfl⟩
    · have d2 : decide (n.tmod m < 0) = false := by simpa using h0
      rw [if_neg h0]
      go_enter Tryd.func39, Tryd.ntmps39
      go_wp2_with fail
      go_ret
      exact ⟨rfl, rfl⟩
/-- a valid framing -/
def MadePost (w : World) (e : Ending) (w' : World) : Prop := ∃ K n : Nat, e = .returned (.agg #[.int .i64 (K : Int), .int .i64 (n : Int)]) ∧ 1 ≤ K ∧ K ≤ 3 ∧ n ≤ 2048 ∧ (K = 2 ∨ n = 0) ∧ Below w.heap.size w w'
set_option maxRecDepth 100000 in
theorem made_any (k n : Int) (w : World) (hk1 : -9223372036854775808 ≤ k) (hk2 : k ≤ 9223372036854775807) (hn1 : -9223372036854775808 ≤ n) (hn2 : n ≤ 9223372036854775807) :
    Calls Tryd.prog 24 #[.int .i64 k, .int .i64 n] w (MadePost w) := by
  have C1 := Lib.hid (fun w => Mod_any k 3 w hk1 hk2 (by omega) (by omega))
  have C2 := Lib.hid (fun w => Mod_any n 2049 w hn1 hn2 (by omega) (by omega))
  obtain ⟨W1, hW1⟩ : ∃ W1, w.alloc (.cells #[.int .i64 0, .int .i64 0] 48) = W1 := ⟨_, rfl⟩
  have g1 : Below w.heap.size w W1 := by rw [← hW1]; exact (Below.refl _ _).alloc (Nat.le_refl _) _
  have mF : Blk W1 w.heap.size 48 #[.int .i64 0, .int .i64 0] := by rw [← hW1]; exact Blk.new w _ _
  have hsz : W1.heap.size = w.heap.size + 1 := by rw [← hW1]; exact World.size_alloc _ _
  have HF := Lib.hid (And.intro g1 (And.intro mF hsz))
  clear hk1 hk2 hn1 hn2 g1 mF hsz
  go_enter Tryd.func24, Tryd.ntmps24
  go_wp2_with fail
  try rw [hW1]
  (with_reducible refine (C1.out _).mono ?_); rintro e w2 ⟨r, hr0, hr1, rfl, rfl⟩
  clear hW1
  obtain ⟨rn, rfl⟩ := Int.eq_ofNat_of_zero_le hr0
  obtain rfl | rfl | rfl : rn = 0 ∨ rn = 1 ∨ rn = 2 := by omega
  · have mK : Blk (W1.alloc (.cells #[.int .i64 1, .int .i64 0] 48)) W1.heap.size 48 #[.int .i64 1, .int .i64 0] := Blk.new W1 48 #[.int .i64 1, .int .i64 0]
    have hb2 : Below w.heap.size w (W1.alloc (.cells #[.int .i64 1, .int .i64 0] 48)) := HF.out.1.alloc HF.out.1.size _
    have mF2 : Blk (W1.alloc (.cells #[.int .i64 1, .int .i64 0] 48)) w.heap.size 48 #[.int .i64 0, .int .i64 0] := HF.out.2.1.alloc (.cells #[.int .i64 1, .int .i64 0] 48)
    have q0 : (W1.alloc (.cells #[.int .i64 1, .int .i64 0] 48)).cell? ⟨W1.heap.size, 0, none⟩ = some (.int .i64 1) := mK.cell 0
    have q1 : (W1.alloc (.cells #[.int .i64 1, .int .i64 0] 48)).cell? ⟨W1.heap.size, 1, none⟩ = some (.int .i64 0) := mK.cell 1
    have q2 : (W1.alloc (.cells #[.int .i64 1, .int .i64 0] 48)).cell? ⟨w.heap.size, 0, none⟩ = some (.int .i64 0) := mF2.cell 0
    have q3 : (W1.alloc (.cells #[.int .i64 1, .int .i64 0] 48)).cell? ⟨w.heap.size, 1, none⟩ = some (.int .i64 0) := mF2.cell 1
    have f0 : (W1.alloc (.cells #[.int .i64 1, .int .i64 0] 48)).frozen? ⟨w.heap.size, 0, none⟩ = false := mF2.frozen 0
    have f1 : (W1.alloc (.cells #[.int .i64 1, .int .i64 0] 48)).frozen? ⟨w.heap.size, 1, none⟩ = false := mF2.frozen 1
    have f2 : (W1.alloc (.cells #[.int .i64 1, .int .i64 0] 48)).frozen? ⟨W1.heap.size, 0, none⟩ = false := mK.frozen 0
    have f3 : (W1.alloc (.cells #[.int .i64 1, .int .i64 0] 48)).frozen? ⟨W1.heap.size, 1, none⟩ = false := mK.frozen 1
    have HH := Lib.hid (And.intro hb2 (And.intro mF2 mK))
    clear hb2 mF2 mK
    go_wp2_with fail
    refine bodyPost_ret (results_cell_row (p := 4) (ty := 48) (by kernel_rfl) _ _ w.heap.size 48 #[.int .i64 1, .int .i64 0] (0, 0) _ rfl ((HH.out.2.1.set_ 0 _).set_ 1 _) Tryd.underlying48 rfl (by kernel_rfl)) rfl ?_
    exact ⟨1, 0, rfl, by omega, by omega, by omega, .inr rfl, (HH.out.1.setCell (by simp) _).setCell (by simp) _⟩
  · have mK : Blk (W1.alloc (.cells #[.int .i64 2, .int .i64 0] 48)) W1.heap.size 48 #[.int .i64 2, .int .i64 0] := Blk.new W1 48 #[.int .i64 2, .int .i64 0]
    have hb2 : Below w.heap.size w (W1.alloc (.cells #[.int .i64 2, .int .i64 0] 48)) := HF.out.1.alloc HF.out.1.size _
    have mF2 : Blk (W1.alloc (.cells #[.int .i64 2, .int .i64 0] 48)) w.heap.size 48 #[.int .i64 0, .int .i64 0] := HF.out.2.1.alloc (.cells #[.int .i64 2, .int .i64 0] 48)
    have q0 : (W1.alloc (.cells #[.int .i64 2, .int .i64 0] 48)).cell? ⟨W1.heap.size, 0, none⟩ = some (.int .i64 2) := mK.cell 0
    have q1 : (W1.alloc (.cells #[.int .i64 2, .int .i64 0] 48)).cell? ⟨W1.heap.size, 1, none⟩ = some (.int .i64 0) := mK.cell 1
    have q2 : (W1.alloc (.cells #[.int .i64 2, .int .i64 0] 48)).cell? ⟨w.heap.size, 0, none⟩ = some (.int .i64 0) := mF2.cell 0
    have q3 : (W1.alloc (.cells #[.int .i64 2, .int .i64 0] 48)).cell? ⟨w.heap.size, 1, none⟩ = some (.int .i64 0) := mF2.cell 1
    have f0 : (W1.alloc (.cells #[.int .i64 2, .int .i64 0] 48)).frozen? ⟨w.heap.size, 0, none⟩ = false := mF2.frozen 0
    have f1 : (W1.alloc (.cells #[.int .i64 2, .int .i64 0] 48)).frozen? ⟨w.heap.size, 1, none⟩ = false := mF2.frozen 1
    have f2 : (W1.alloc (.cells #[.int .i64 2, .int .i64 0] 48)).frozen? ⟨W1.heap.size, 0, none⟩ = false := mK.frozen 0
    have f3 : (W1.alloc (.cells #[.int .i64 2, .int .i64 0] 48)).frozen? ⟨W1.heap.size, 1, none⟩ = false := mK.frozen 1
    have HH := Lib.hid (And.intro hb2 (And.intro mF2 mK))
    clear hb2 mF2 mK
    go_wp2_with fail
    (with_reducible refine (C2.out _).mono ?_); rintro e w2 ⟨z, hz0, hz1, rfl, rfl⟩
    obtain ⟨zn, rfl⟩ := Int.eq_ofNat_of_zero_le hz0
    have HZ := Lib.hid (And.intro hz0 hz1)
    clear hz0 hz1
    have mF4 : Blk (W1.alloc (.cells #[.int .i64 2, .int .i64 (zn : Int)] 48)) w.heap.size 48 #[.int .i64 0, .int .i64 0] := HF.out.2.1.alloc _
    have mK4 : Blk (W1.alloc (.cells #[.int .i64 2, .int .i64 (zn : Int)] 48)) W1.heap.size 48 #[.int .i64 2, .int .i64 (zn : Int)] := Blk.new W1 _ _
    have q4 : (W1.alloc (.cells #[.int .i64 2, .int .i64 (zn : Int)] 48)).cell? ⟨W1.heap.size, 0, none⟩ = some (.int .i64 2) := mK4.cell 0
    have q5 : (W1.alloc (.cells #[.int .i64 2, .int .i64 (zn : Int)] 48)).cell? ⟨W1.heap.size, 1, none⟩ = some (.int .i64 (zn : Int)) := mK4.cell 1
    have q6 : (W1.alloc (.cells #[.int .i64 2, .int .i64 (zn : Int)] 48)).cell? ⟨w.heap.size, 0, none⟩ = some (.int .i64 0) := mF4.cell 0
    have q7 : (W1.alloc (.cells #[.int .i64 2, .int .i64 (zn : Int)] 48)).cell? ⟨w.heap.size, 1, none⟩ = some (.int .i64 0) := mF4.cell 1
    have f4 : (W1.alloc (.cells #[.int .i64 2, .int .i64 (zn : Int)] 48)).frozen? ⟨w.heap.size, 0, none⟩ = false := mF4.frozen 0
    have f5 : (W1.alloc (.cells #[.int .i64 2, .int .i64 (zn : Int)] 48)).frozen? ⟨w.heap.size, 1, none⟩ = false := mF4.frozen 1
    have hb4 : Below w.heap.size w (W1.alloc (.cells #[.int .i64 2, .int .i64 (zn : Int)] 48)) := HF.out.1.alloc HF.out.1.size _
    have H4 := Lib.hid (And.intro hb4 mF4)
    clear mF4 mK4 hb4
    go_wp2_with fail
    refine bodyPost_ret (results_cell_row (p := 4) (ty := 48) (by kernel_rfl) _ _ w.heap.size 48 #[.int .i64 2, .int .i64 (zn : Int)] (0, 0) _ rfl ((H4.out.2.set_ 0 _).set_ 1 _) Tryd.underlying48 rfl (by kernel_rfl)) rfl ?_
    have hZ := HZ.out
    exact ⟨2, zn, rfl, by omega, by omega, by omega, .inl rfl, (H4.out.1.setCell (by simp) _).setCell (by simp) _⟩
  · have mK : Blk (W1.alloc (.cells #[.int .i64 3, .int .i64 0] 48)) W1.heap.size 48 #[.int .i64 3, .int .i64 0] := Blk.new W1 48 #[.int .i64 3, .int .i64 0]
    have hb2 : Below w.heap.size w (W1.alloc (.cells #[.int .i64 3, .int .i64 0] 48)) := HF.out.1.alloc HF.out.1.size _
    have mF2 : Blk (W1.alloc (.cells #[.int .i64 3, .int .i64 0] 48)) w.heap.size 48 #[.int .i64 0, .int .i64 0] := HF.out.2.1.alloc (.cells #[.int .i64 3, .int .i64 0] 48)
    have q0 : (W1.alloc (.cells #[.int .i64 3, .int .i64 0] 48)).cell? ⟨W1.heap.size, 0, none⟩ = some (.int .i64 3) := mK.cell 0
    have q1 : (W1.alloc (.cells #[.int .i64 3, .int .i64 0] 48)).cell? ⟨W1.heap.size, 1, none⟩ = some (.int .i64 0) := mK.cell 1
    have q2 : (W1.alloc (.cells #[.int .i64 3, .int .i64 0] 48)).cell? ⟨w.heap.size, 0, none⟩ = some (.int .i64 0) := mF2.cell 0
    have q3 : (W1.alloc (.cells #[.int .i64 3, .int .i64 0] 48)).cell? ⟨w.heap.size, 1, none⟩ = some (.int .i64 0) := mF2.cell 1
    have f0 : (W1.alloc (.cells #[.int .i64 3, .int .i64 0] 48)).frozen? ⟨w.heap.size, 0, none⟩ = false := mF2.frozen 0
    have f1 : (W1.alloc (.cells #[.int .i64 3, .int .i64 0] 48)).frozen? ⟨w.heap.size, 1, none⟩ = false := mF2.frozen 1
    have f2 : (W1.alloc (.cells #[.int .i64 3, .int .i64 0] 48)).frozen? ⟨W1.heap.size, 0, none⟩ = false := mK.frozen 0
    have f3 : (W1.alloc (.cells #[.int .i64 3, .int .i64 0] 48)).frozen? ⟨W1.heap.size, 1, none⟩ = false := mK.frozen 1
    have HH := Lib.hid (And.intro hb2 (And.intro mF2 mK))
    clear hb2 mF2 mK
    go_wp2_with fail
    refine bodyPost_ret (results_cell_row (p := 4) (ty := 48) (by kernel_rfl) _ _ w.heap.size 48 #[.int .i64 3, .int .i64 0] (0, 0) _ rfl ((HH.out.2.1.set_ 0 _).set_ 1 _) Tryd.underlying48 rfl (by kernel_rfl)) rfl ?_
    exact ⟨3, 0, rfl, by omega, by omega, by omega, .inr rfl, (HH.out.1.setCell (by simp) _).setCell (by simp) _⟩
end Go.Proofs.YtpdohlnobbimaaaDoor
