/-
  The contract of waypostkit.Mod. made: a valid framing made of numbers. other: fields that say nothing about bodies, made of numbers. What is written is read back: a field of a framing among others, in plain words; a list appended to a list.
-/
import Derived.Test.YtpdohlnobbimaaaDoorProg
import Derived.Test.YtpdohlnobbimaaaDoorBase
import Derived.Test.YtpdohlnobbimaaaDoorBq
import Derived.Outline
import Derived.Test.YtpdohlnobbimaaaDoorFrA
namespace Go.Proofs.YtpdohlnobbimaaaDoor

section
open Go.RowKit

/-- what Mod returns lies from 0 to m - 1 -/
def ModPost (m : Int) (w : World) (e : Ending) (w' : World) : Prop := ∃ r : Int, 0 ≤ r ∧ r < m ∧ e = .returned (.int .i64 r) ∧ w = w'
theorem Mod_any (n m : Int) (w : World) (hn1 : -9223372036854775808 ≤ n) (hn2 : n ≤ 9223372036854775807) (hm : 1 ≤ m) (hm2 : m ≤ 1099511627776) :
    Calls Tryd.prog 39 #[.int .i64 n, .int .i64 m] w (ModPost m w) := by
  have d1 : decide (m < 1) = false := by simp; omega
  have u1 := Int.tmod_lt_of_pos n (show 0 < m by omega)
  have u2 := Int.lt_tmod_of_pos n (show 0 < m by omega)
  by_cases hp : 0 ≤ n
  · have hr := Int.emod_nonneg n (show m ≠ 0 by omega)
    have hr2 := Int.emod_lt_of_pos n (show 0 < m by omega)
    have d2 : decide (n % m < 0) = false := by simp; omega
    clear u1 u2
    go_enter Tryd.func39, Tryd.ntmps39
    go_wp2_with fail
    go_ret
    exact ⟨n % m, hr, hr2, rfl, rfl⟩
  · have hneg : n < 0 := by omega
    by_cases h0 : n.tmod m < 0
    · have d2 : decide (n.tmod m < 0) = true := by simpa using h0
      go_enter Tryd.func39, Tryd.ntmps39
      go_wp2_with fail
      go_ret
      exact ⟨n.tmod m + m, by omega, by omega, rfl, rfl⟩
    · have d2 : decide (n.tmod m < 0) = false := by simpa using h0
      go_enter Tryd.func39, Tryd.ntmps39
      go_wp2_with fail
      go_ret
      exact ⟨n.tmod m, by omega, by omega, rfl, rfl⟩
end

section
open Go.RowKit

/-- what Mod returns -/
def modV (n m : Int) : Int := if 0 ≤ n then n % m else if n.tmod m < 0 then n.tmod m + m else n.tmod m
theorem modV_at (n m : Int) (hm : 1 ≤ m) : 0 ≤ modV n m ∧ modV n m < m := by
  have u1 := Int.tmod_lt_of_pos n (show 0 < m by omega)
  have u2 := Int.lt_tmod_of_pos n (show 0 < m by omega)
  have hr := Int.emod_nonneg n (show m ≠ 0 by omega)
  have hr2 := Int.emod_lt_of_pos n (show 0 < m by omega)
  unfold modV
  split
  · exact ⟨hr, hr2⟩
  · split <;> omega
theorem Mod_is (n m : Int) (w : World) (hn1 : -9223372036854775808 ≤ n) (hn2 : n ≤ 9223372036854775807) (hm : 1 ≤ m) (hm2 : m ≤ 1099511627776) :
    Calls Tryd.prog 39 #[.int .i64 n, .int .i64 m] w fun e w' => e = .returned (.int .i64 (modV n m)) ∧ w = w' := by
  have d1 : decide (m < 1) = false := by simp; omega
  have u1 := Int.tmod_lt_of_pos n (show 0 < m by omega)
  have u2 := Int.lt_tmod_of_pos n (show 0 < m by omega)
  unfold modV
  by_cases hp : 0 ≤ n
  · have hr := Int.emod_nonneg n (show m ≠ 0 by omega)
    have hr2 := Int.emod_lt_of_pos n (show 0 < m by omega)
    have d2 : decide (n % m < 0) = false := by simp; omega
    rw [if_pos hp]
    clear u1 u2
    go_enter Tryd.func39, Tryd.ntmps39
    go_wp2_with fail
    go_ret
    exact ⟨rfl, rfl⟩
  · have hneg : n < 0 := by omega
    rw [if_neg hp]
    by_cases h0 : n.tmod m < 0
    · have d2 : decide (n.tmod m < 0) = true := by simpa using h0
      rw [if_pos h0]
      go_enter Tryd.func39, Tryd.ntmps39
      go_wp2_with fail
      go_ret
      exact ⟨rfl, rfl⟩
    · have d2 : decide (n.tmod m < 0) = false := by simpa using h0
      rw [if_neg h0]
      go_enter Tryd.func39, Tryd.ntmps39
      go_wp2_with fail
      go_ret
      exact ⟨rfl, rfl⟩
/-- a valid framing -/
def MadePost (w : World) (e : Ending) (w' : World) : Prop := ∃ K n : Nat, e = .returned (.agg #[.int .i64 (K : Int), .int .i64 (n : Int)]) ∧ 1 ≤ K ∧ K ≤ 3 ∧ n ≤ 2048 ∧ (K = 2 ∨ n = 0) ∧ Below w.heap.size w w'
set_option maxRecDepth 100000 in
theorem made_any (k n : Int) (w : World) (hk1 : -9223372036854775808 ≤ k) (hk2 : k ≤ 9223372036854775807) (hn1 : -9223372036854775808 ≤ n) (hn2 : n ≤ 9223372036854775807) :
    Calls Tryd.prog 24 #[.int .i64 k, .int .i64 n] w (MadePost w) := by
  have C1 := Lib.hid (fun w => Mod_any k 3 w hk1 hk2 (by omega) (by omega))
  have C2 := Lib.hid (fun w => Mod_any n 2049 w hn1 hn2 (by omega) (by omega))
  obtain ⟨W1, hW1⟩ : ∃ W1, w.alloc (.cells #[.int .i64 0, .int .i64 0] 48) = W1 := ⟨_, rfl⟩
  have g1 : Below w.heap.size w W1 := by rw [← hW1]; exact (Below.refl _ _).alloc (Nat.le_refl _) _
  have mF : Blk W1 w.heap.size 48 #[.int .i64 0, .int .i64 0] := by rw [← hW1]; exact Blk.new w _ _
  have hsz : W1.heap.size = w.heap.size + 1 := by rw [← hW1]; exact World.size_alloc _ _
  have HF := Lib.hid (And.intro g1 (And.intro mF hsz))
  clear hk1 hk2 hn1 hn2 g1 mF hsz
  go_enter Tryd.func24, Tryd.ntmps24
  go_wp2_with fail
  try rw [hW1]
  (with_reducible refine (C1.out _).mono ?_); rintro e w2 ⟨r, hr0, hr1, rfl, rfl⟩
  clear hW1
  obtain ⟨rn, rfl⟩ := Int.eq_ofNat_of_zero_le hr0
  obtain rfl | rfl | rfl : rn = 0 ∨ rn = 1 ∨ rn = 2 := by omega
  · have mK : Blk (W1.alloc (.cells #[.int .i64 1, .int .i64 0] 48)) W1.heap.size 48 #[.int .i64 1, .int .i64 0] := Blk.new W1 48 #[.int .i64 1, .int .i64 0]
    have hb2 : Below w.heap.size w (W1.alloc (.cells #[.int .i64 1, .int .i64 0] 48)) := HF.out.1.alloc HF.out.1.size _
    have mF2 : Blk (W1.alloc (.cells #[.int .i64 1, .int .i64 0] 48)) w.heap.size 48 #[.int .i64 0, .int .i64 0] := HF.out.2.1.alloc (.cells #[.int .i64 1, .int .i64 0] 48)
    have q0 : (W1.alloc (.cells #[.int .i64 1, .int .i64 0] 48)).cell? ⟨W1.heap.size, 0, none⟩ = some (.int .i64 1) := mK.cell 0
    have q1 : (W1.alloc (.cells #[.int .i64 1, .int .i64 0] 48)).cell? ⟨W1.heap.size, 1, none⟩ = some (.int .i64 0) := mK.cell 1
    have q2 : (W1.alloc (.cells #[.int .i64 1, .int .i64 0] 48)).cell? ⟨w.heap.size, 0, none⟩ = some (.int .i64 0) := mF2.cell 0
    have q3 : (W1.alloc (.cells #[.int .i64 1, .int .i64 0] 48)).cell? ⟨w.heap.size, 1, none⟩ = some (.int .i64 0) := mF2.cell 1
    have f0 : (W1.alloc (.cells #[.int .i64 1, .int .i64 0] 48)).frozen? ⟨w.heap.size, 0, none⟩ = false := mF2.frozen 0
    have f1 : (W1.alloc (.cells #[.int .i64 1, .int .i64 0] 48)).frozen? ⟨w.heap.size, 1, none⟩ = false := mF2.frozen 1
    have f2 : (W1.alloc (.cells #[.int .i64 1, .int .i64 0] 48)).frozen? ⟨W1.heap.size, 0, none⟩ = false := mK.frozen 0
    have f3 : (W1.alloc (.cells #[.int .i64 1, .int .i64 0] 48)).frozen? ⟨W1.heap.size, 1, none⟩ = false := mK.frozen 1
    have HH := Lib.hid (And.intro hb2 (And.intro mF2 mK))
    clear hb2 mF2 mK
    go_wp2_with fail
    refine bodyPost_ret (results_cell_row (p := 4) (ty := 48) (by kernel_rfl) _ _ w.heap.size 48 #[.int .i64 1, .int .i64 0] (0, 0) _ rfl ((HH.out.2.1.set_ 0 _).set_ 1 _) Tryd.underlying48 rfl (by kernel_rfl)) rfl ?_
    exact ⟨1, 0, rfl, by omega, by omega, by omega, .inr rfl, (HH.out.1.setCell (by simp) _).setCell (by simp) _⟩
  · have mK : Blk (W1.alloc (.cells #[.int .i64 2, .int .i64 0] 48)) W1.heap.size 48 #[.int .i64 2, .int .i64 0] := Blk.new W1 48 #[.int .i64 2, .int .i64 0]
    have hb2 : Below w.heap.size w (W1.alloc (.cells #[.int .i64 2, .int .i64 0] 48)) := HF.out.1.alloc HF.out.1.size _
    have mF2 : Blk (W1.alloc (.cells #[.int .i64 2, .int .i64 0] 48)) w.heap.size 48 #[.int .i64 0, .int .i64 0] := HF.out.2.1.alloc (.cells #[.int .i64 2, .int .i64 0] 48)
    have q0 : (W1.alloc (.cells #[.int .i64 2, .int .i64 0] 48)).cell? ⟨W1.heap.size, 0, none⟩ = some (.int .i64 2) := mK.cell 0
    have q1 : (W1.alloc (.cells #[.int .i64 2, .int .i64 0] 48)).cell? ⟨W1.heap.size, 1, none⟩ = some (.int .i64 0) := mK.cell 1
    have q2 : (W1.alloc (.cells #[.int .i64 2, .int .i64 0] 48)).cell? ⟨w.heap.size, 0, none⟩ = some (.int .i64 0) := mF2.cell 0
    have q3 : (W1.alloc (.cells #[.int .i64 2, .int .i64 0] 48)).cell? ⟨w.heap.size, 1, none⟩ = some (.int .i64 0) := mF2.cell 1
    have f0 : (W1.alloc (.cells #[.int .i64 2, .int .i64 0] 48)).frozen? ⟨w.heap.size, 0, none⟩ = false := mF2.frozen 0
    have f1 : (W1.alloc (.cells #[.int .i64 2, .int .i64 0] 48)).frozen? ⟨w.heap.size, 1, none⟩ = false := mF2.frozen 1
    have f2 : (W1.alloc (.cells #[.int .i64 2, .int .i64 0] 48)).frozen? ⟨W1.heap.size, 0, none⟩ = false := mK.frozen 0
    have f3 : (W1.alloc (.cells #[.int .i64 2, .int .i64 0] 48)).frozen? ⟨W1.heap.size, 1, none⟩ = false := mK.frozen 1
    have HH := Lib.hid (And.intro hb2 (And.intro mF2 mK))
    clear hb2 mF2 mK
    go_wp2_with fail
    (with_reducible refine (C2.out _).mono ?_); rintro e w2 ⟨z, hz0, hz1, rfl, rfl⟩
    obtain ⟨zn, rfl⟩ := Int.eq_ofNat_of_zero_le hz0
    have HZ := Lib.hid (And.intro hz0 hz1)
    clear hz0 hz1
    have mF4 : Blk (W1.alloc (.cells #[.int .i64 2, .int .i64 (zn : Int)] 48)) w.heap.size 48 #[.int .i64 0, .int .i64 0] := HF.out.2.1.alloc _
    have mK4 : Blk (W1.alloc (.cells #[.int .i64 2, .int .i64 (zn : Int)] 48)) W1.heap.size 48 #[.int .i64 2, .int .i64 (zn : Int)] := Blk.new W1 _ _
    have q4 : (W1.alloc (.cells #[.int .i64 2, .int .i64 (zn : Int)] 48)).cell? ⟨W1.heap.size, 0, none⟩ = some (.int .i64 2) := mK4.cell 0
    have q5 : (W1.alloc (.cells #[.int .i64 2, .int .i64 (zn : Int)] 48)).cell? ⟨W1.heap.size, 1, none⟩ = some (.int .i64 (zn : Int)) := mK4.cell 1
    have q6 : (W1.alloc (.cells #[.int .i64 2, .int .i64 (zn : Int)] 48)).cell? ⟨w.heap.size, 0, none⟩ = some (.int .i64 0) := mF4.cell 0
    have q7 : (W1.alloc (.cells #[.int .i64 2, .int .i64 (zn : Int)] 48)).cell? ⟨w.heap.size, 1, none⟩ = some (.int .i64 0) := mF4.cell 1
    have f4 : (W1.alloc (.cells #[.int .i64 2, .int .i64 (zn : Int)] 48)).frozen? ⟨w.heap.size, 0, none⟩ = false := mF4.frozen 0
    have f5 : (W1.alloc (.cells #[.int .i64 2, .int .i64 (zn : Int)] 48)).frozen? ⟨w.heap.size, 1, none⟩ = false := mF4.frozen 1
    have hb4 : Below w.heap.size w (W1.alloc (.cells #[.int .i64 2, .int .i64 (zn : Int)] 48)) := HF.out.1.alloc HF.out.1.size _
    have H4 := Lib.hid (And.intro hb4 mF4)
    clear mF4 mK4 hb4
    go_wp2_with fail
    refine bodyPost_ret (results_cell_row (p := 4) (ty := 48) (by kernel_rfl) _ _ w.heap.size 48 #[.int .i64 2, .int .i64 (zn : Int)] (0, 0) _ rfl ((H4.out.2.set_ 0 _).set_ 1 _) Tryd.underlying48 rfl (by kernel_rfl)) rfl ?_
    have hZ := HZ.out
    exact ⟨2, zn, rfl, by omega, by omega, by omega, .inl rfl, (H4.out.1.setCell (by simp) _).setCell (by simp) _⟩
  · have mK : Blk (W1.alloc (.cells #[.int .i64 3, .int .i64 0] 48)) W1.heap.size 48 #[.int .i64 3, .int .i64 0] := Blk.new W1 48 #[.int .i64 3, .int .i64 0]
    have hb2 : Below w.heap.size w (W1.alloc (.cells #[.int .i64 3, .int .i64 0] 48)) := HF.out.1.alloc HF.out.1.size _
    have mF2 : Blk (W1.alloc (.cells #[.int .i64 3, .int .i64 0] 48)) w.heap.size 48 #[.int .i64 0, .int .i64 0] := HF.out.2.1.alloc (.cells #[.int .i64 3, .int .i64 0] 48)
    have q0 : (W1.alloc (.cells #[.int .i64 3, .int .i64 0] 48)).cell? ⟨W1.heap.size, 0, none⟩ = some (.int .i64 3) := mK.cell 0
    have q1 : (W1.alloc (.cells #[.int .i64 3, .int .i64 0] 48)).cell? ⟨W1.heap.size, 1, none⟩ = some (.int .i64 0) := mK.cell 1
    have q2 : (W1.alloc (.cells #[.int .i64 3, .int .i64 0] 48)).cell? ⟨w.heap.size, 0, none⟩ = some (.int .i64 0) := mF2.cell 0
    have q3 : (W1.alloc (.cells #[.int .i64 3, .int .i64 0] 48)).cell? ⟨w.heap.size, 1, none⟩ = some (.int .i64 0) := mF2.cell 1
    have f0 : (W1.alloc (.cells #[.int .i64 3, .int .i64 0] 48)).frozen? ⟨w.heap.size, 0, none⟩ = false := mF2.frozen 0
    have f1 : (W1.alloc (.cells #[.int .i64 3, .int .i64 0] 48)).frozen? ⟨w.heap.size, 1, none⟩ = false := mF2.frozen 1
    have f2 : (W1.alloc (.cells #[.int .i64 3, .int .i64 0] 48)).frozen? ⟨W1.heap.size, 0, none⟩ = false := mK.frozen 0
    have f3 : (W1.alloc (.cells #[.int .i64 3, .int .i64 0] 48)).frozen? ⟨W1.heap.size, 1, none⟩ = false := mK.frozen 1
    have HH := Lib.hid (And.intro hb2 (And.intro mF2 mK))
    clear hb2 mF2 mK
    go_wp2_with fail
    refine bodyPost_ret (results_cell_row (p := 4) (ty := 48) (by kernel_rfl) _ _ w.heap.size 48 #[.int .i64 3, .int .i64 0] (0, 0) _ rfl ((HH.out.2.1.set_ 0 _).set_ 1 _) Tryd.underlying48 rfl (by kernel_rfl)) rfl ?_
    exact ⟨3, 0, rfl, by omega, by omega, by omega, .inr rfl, (HH.out.1.setCell (by simp) _).setCell (by simp) _⟩
end

section
open Go.RowKit

def otN : List (List UInt8) := [[72, 111, 115, 116], [65, 99, 99, 101, 112, 116], [88, 45, 76, 101, 110, 103, 116, 104], [67, 111, 110, 116, 101, 110, 116], [67, 111, 110, 110, 101, 99, 116, 105, 111, 110], [84, 114, 97, 110, 115, 102, 101, 114]]
def otV : List UInt8 := [53, 44, 32, 99, 104, 117, 110, 107, 101, 100]
def otF (f : Fld) : Prop := f.1 ∈ otN ∧ f.2 = otV
theorem otF_not (f : Fld) (h : otF f) : sameN clN f = false ∧ sameN teN f = false := by
  have key : ∀ a ∈ otN, sameN clN (a, otV) = false ∧ sameN teN (a, otV) = false := by decide +kernel
  have := key f.1 h.1
  obtain ⟨f1, f2⟩ := f
  obtain rfl : f2 = otV := h.2
  exact this
theorem ot_values {l : List Fld} (h : ∀ f ∈ l, otF f) : valuesL clN l = [] ∧ valuesL teN l = [] := by
  unfold valuesL
  constructor
  · rw [List.map_eq_nil_iff, List.filter_eq_nil_iff]
    intro f hf
    rw [(otF_not f (h f hf)).1]; simp
  · rw [List.map_eq_nil_iff, List.filter_eq_nil_iff]
    intro f hf
    rw [(otF_not f (h f hf)).2]; simp
theorem otF_len (f : Fld) (h : otF f) : f.1.length ≤ 100 ∧ f.2.length ≤ 100 := by
  have k1 : ∀ a ∈ otN, a.length ≤ 100 := by decide +kernel
  exact ⟨k1 f.1 h.1, by rw [h.2]; decide⟩
theorem otN_at (i : Nat) (h : i < 6) : ∃ y ∈ otN, (#[.string ⟨#[72, 111, 115, 116]⟩, .string ⟨#[65, 99, 99, 101, 112, 116]⟩, .string ⟨#[88, 45, 76, 101, 110, 103, 116, 104]⟩, .string ⟨#[67, 111, 110, 116, 101, 110, 116]⟩, .string ⟨#[67, 111, 110, 110, 101, 99, 116, 105, 111, 110]⟩, .string ⟨#[84, 114, 97, 110, 115, 102, 101, 114]⟩] : Array Value)[i]? = some (.string (bs y)) := by
  obtain rfl | rfl | rfl | rfl | rfl | rfl : i = 0 ∨ i = 1 ∨ i = 2 ∨ i = 3 ∨ i = 4 ∨ i = 5 := by omega
  all_goals exact ⟨_, by unfold otN; simp, rfl⟩

set_option maxRecDepth 100000 in
set_option maxHeartbeats 16000000 in
theorem other09 (A : Option Addr) (n c : Nat) (zs : List Int) (w : World) (hr : Reads w w.heap.size 1 A n (zs.map (Value.int .i64))) (hn : n ≤ 9223372036854775807) (hw : ∀ z ∈ zs, -9223372036854775808 ≤ z ∧ z ≤ 9223372036854775807) :
    Calls Tryd.prog 26 #[.slice A n c] w fun e w' => ∃ (B : Option Addr) (d : Nat) (l : List Fld), e = .returned (.slice B l.length d) ∧ l.length ≤ 8 ∧ l.length ≤ d ∧ (∀ f ∈ l, otF f) ∧ Reads w' w'.heap.size 2 B l.length (fldsC l) ∧ Below w.heap.size w w' := by
  have hl : zs.length = n := by have := hr.1; simpa using this
  subst hl
  have HR := Lib.hid hr
  have HW := Lib.hid hw
  obtain ⟨W1, hW1⟩ : ∃ W1, w.alloc (.cells #[.string ⟨#[72, 111, 115, 116]⟩, .string ⟨#[65, 99, 99, 101, 112, 116]⟩, .string ⟨#[88, 45, 76, 101, 110, 103, 116, 104]⟩, .string ⟨#[67, 111, 110, 116, 101, 110, 116]⟩, .string ⟨#[67, 111, 110, 110, 101, 99, 116, 105, 111, 110]⟩, .string ⟨#[84, 114, 97, 110, 115, 102, 101, 114]⟩] 9) = W1 := ⟨_, rfl⟩
  have k1 : Blk W1 w.heap.size 9 #[.string ⟨#[72, 111, 115, 116]⟩, .string ⟨#[65, 99, 99, 101, 112, 116]⟩, .string ⟨#[88, 45, 76, 101, 110, 103, 116, 104]⟩, .string ⟨#[67, 111, 110, 116, 101, 110, 116]⟩, .string ⟨#[67, 111, 110, 110, 101, 99, 116, 105, 111, 110]⟩, .string ⟨#[84, 114, 97, 110, 115, 102, 101, 114]⟩] := by rw [← hW1]; exact Blk.new _ _ _
  have hb1 : Below w.heap.size w W1 := by rw [← hW1]; exact (Below.refl _ _).alloc (Nat.le_refl _) _
  have hs1 : W1.heap.size = w.heap.size + 1 := by rw [← hW1]; simp
  have HK := Lib.hid (And.intro k1 (And.intro hb1 hs1))
  clear hr hw k1 hb1 hs1
  subst hW1
  go_enter Tryd.func26, Tryd.ntmps26
  go_wp2_with fail
  generalize w.alloc _ = W1 at HK ⊢
  go_loopw [4, 5] (fun o i wr => ∃ (k : Nat) (l : List Fld), i = .int .i64 k ∧ k ≤ zs.length ∧ k ≤ 8 ∧ l.length = k ∧ Hid ((∀ f ∈ l, otF f) ∧ wr.ownsRow W1.heap.size 36 2 o l.length (fldsC l) ∧ Below W1.heap.size W1 wr)) (fun _ i _ => 8 - (intOf i).toNat)
  case atStart => exact ⟨0, [], rfl, by omega, by omega, rfl, hide ⟨by simp, World.ownsRow_nil _ _ _ _, Below.refl _ _⟩⟩
  case round =>
    obtain ⟨k, l, rfl, hk, hk8, hlk, HO⟩ := hrel
    rename World => W0
    by_cases hlt : k < zs.length ∧ k < 8
    · obtain ⟨hlt, h8⟩ := hlt
      have hbW := HK.out.2.1.trans (HO.out.2.2.mono HK.out.2.1.size)
      obtain ⟨b, o, rfl, hbl, hc⟩ := HR.out.lit (by omega)
      have c0 := (hbW.cell (p := ⟨b, o + k, none⟩) hbl).trans (hc k (.int .i64 zs[k]) (by simp [hlt]))
      obtain ⟨z, hz⟩ : ∃ z, zs[k] = z := ⟨_, rfl⟩
      have hzb := HW.out zs[k] (List.getElem_mem hlt)
      rw [hz] at c0 hzb
      have hmv := modV_at z 6 (by omega)
      obtain ⟨m', hm'⟩ : ∃ m', modV z 6 = m' := ⟨_, rfl⟩
      have cM := fun X => Mod_is z 6 X hzb.1 hzb.2 (by omega) (by omega)
      rw [hm'] at hmv cM
      obtain ⟨m, rfl⟩ := Int.eq_ofNat_of_zero_le hmv.1
      have kA := HK.out.1.below HO.out.2.2 HK.out.1.lt
      obtain ⟨ny, hny, hn1⟩ := otN_at m (by omega)
      have n0 : W0.cell? ⟨w.heap.size, m, none⟩ = some (.string (bs ny)) := (kA.cell m).trans hn1
      have g1 : (0 : Int) ≤ (m : Int) := by omega
      have g2 : (m : Int) < 6 := by omega
      have i0 : (0 : Int) ≤ (k : Int) := by omega
      have i1 : (k : Int) < (zs.length : Int) := by omega
      have i2 : (k : Int) < 8 := by omega
      have HN := Lib.hid hny
      obtain ⟨v', w5, hrun, hown, hb5, _⟩ := app_fld HO.out.2.1 HO.out.2.2.size (by omega) (ny, otV)
      have hrun' : (Builtin.append_ #[24, 24] 24 #[_, .slice (some ⟨W0.heap.size, 0, none⟩) 1 1]).run Tryd.prog (W0.alloc (.cells #[.string (bs ny), .string ⟨#[53, 44, 32, 99, 104, 117, 110, 107, 101, 100]⟩] 36)) = .ok v' w5 := hrun
      have HX : Hid ((∀ f ∈ l ++ [(ny, otV)], otF f) ∧ w5.ownsRow W1.heap.size 36 2 v' (l ++ [(ny, otV)]).length (fldsC (l ++ [(ny, otV)])) ∧ Below W1.heap.size W1 w5) := hide ⟨by
        intro f hf
        rcases List.mem_append.1 hf with h | h
        · exact HO.out.1 f h
        · simp at h; subst h; exact ⟨HN.out, rfl⟩, hown, HO.out.2.2.trans hb5⟩
      have HRUN := Lib.hid hrun'
      have CM := Lib.hid cM
      clear hc hz hzb hm' hmv cM kA hn1 hny hbW hrun hrun' hown hb5
      go_wp2_with fail
      (with_reducible refine (CM.out _).mono ?_); rintro e w1 ⟨rfl, rfl⟩
      go_wp2_with (at_builtin; refine wpList_append_run HRUN.out rfl _ _ rfl rfl rfl rfl ?_)
      go_roundw
      case rel => exact ⟨k + 1, _, by go_num, by omega, by omega, by simp; omega, HX⟩
      case measure => simp [intOf]; omega
    · obtain ⟨hm, hO, hb⟩ := HO.out
      obtain ⟨A', cap, rfl⟩ := own_slice hO
      have HQ := Lib.hid (And.intro (own_capA hO) (And.intro hm (And.intro (Reads.of_own hO) (HK.out.2.1.trans (hb.mono HK.out.2.1.size)))))
      clear hm hO hb HO
      by_cases hd : k < zs.length
      · have d1 : (8 : Int) ≤ (k : Int) := by omega
        have d2 : (k : Int) < (zs.length : Int) := by omega
        go_wp2_with fail
        go_ret
        exact ⟨A', cap, l, rfl, by omega, HQ.out⟩
      · have d1 : (zs.length : Int) ≤ (k : Int) := by omega
        go_wp2_with fail
        go_ret
        exact ⟨A', cap, l, rfl, by omega, HQ.out⟩
end

section
open Go.RowKit

/-- the decimal numeral of a small number -/
def decF (n : Nat) : List UInt8 := if n < 10 then [hxd n] else if n < 100 then [hxd (n / 10), hxd (n % 10)] else if n < 1000 then [hxd (n / 100), hxd (n / 10 % 10), hxd (n % 10)] else [hxd (n / 1000), hxd (n / 100 % 10), hxd (n / 10 % 10), hxd (n % 10)]
theorem decF_eq (n : Nat) (h : n < 10000) : Lib.decDigits n = decF n := by
  have d1 : n / 10 / 10 = n / 100 := by omega
  have d2 : n / 100 / 10 = n / 1000 := by omega
  unfold decF
  by_cases h1 : n < 10
  · rw [if_pos h1, dec_small h1]
  · rw [if_neg h1, dec_big h1]
    by_cases h2 : n < 100
    · rw [if_pos h2, dec_small (by omega)]; rfl
    · rw [if_neg h2, dec_big (by omega : ¬ n / 10 < 10), d1]
      by_cases h3 : n < 1000
      · rw [if_pos h3, dec_small (by omega)]; rfl
      · rw [if_neg h3, dec_big (by omega : ¬ n / 100 < 10), d2, dec_small (by omega)]; rfl
def decOk (n : Nat) : Bool := decide (lensT [decF n] = ([n], 0)) && decide (lensT [decF n, decF n] = ([n, n], 0)) && decide (lensT [decF n ++ [32, 44, 9, 48] ++ decF n] = ([n, n], 0)) && decide ((decF n).length ≤ 4)
theorem decOk_all : (List.range 2049).all decOk = true := by kernel_rfl
theorem decOk_at (n : Nat) (h : n ≤ 2048) : lensT [Lib.decDigits n] = ([n], 0) ∧ lensT [Lib.decDigits n, Lib.decDigits n] = ([n, n], 0) ∧ lensT [Lib.decDigits n ++ [32, 44, 9, 48] ++ Lib.decDigits n] = ([n, n], 0) ∧ (Lib.decDigits n).length ≤ 4 := by
  have := List.all_eq_true.1 decOk_all n (by simp; omega)
  unfold decOk at this
  simp only [Bool.and_eq_true, decide_eq_true_eq] at this
  rw [decF_eq n (by omega)]
  exact ⟨this.1.1.1, this.1.1.2, this.1.2, this.2⟩
theorem ofT_V {l : List Fld} {V : List (List UInt8)} {L : List Nat} {n : Nat} (hc : valuesL clN l = V) (ht : valuesL teN l = []) (hl : lensT V = (L, 0)) (hL : L = [n] ∨ L = [n, n]) (hn : n ≤ 2048) : ofT l = (2, n, 0) := by
  unfold ofT
  rw [hc, ht, hl]
  have : ¬ 2048 < n := by omega
  rcases hL with rfl | rfl <;> simp [chunkT, ofP, this]
theorem cl_one (d : List UInt8) : valuesL clN [(clN, d)] = [d] ∧ valuesL teN [(clN, d)] = [] := ⟨rfl, rfl⟩
theorem CL_one (d : List UInt8) : valuesL clN [([67, 79, 78, 84, 69, 78, 84, 45, 108, 101, 110, 103, 116, 104], d)] = [d] ∧ valuesL teN [([67, 79, 78, 84, 69, 78, 84, 45, 108, 101, 110, 103, 116, 104], d)] = [] := ⟨rfl, rfl⟩
theorem ofT_vals {l l' : List Fld} (h1 : valuesL clN l = valuesL clN l') (h2 : valuesL teN l = valuesL teN l') : ofT l = ofT l' := by unfold ofT; rw [h1, h2]
/-- a valid framing's field, with others before and behind -/
theorem back_all {K n : Nat} (hK1 : 1 ≤ K) (hK3 : K ≤ 3) (hn : n ≤ 2048) (hKn : K = 2 ∨ n = 0) (S : List Fld) (hS : ∀ f ∈ S, otF f) :
    (fieldsT K n).2 = 0 ∧ (fieldsT K n).1.length ≤ 1 ∧ ofT (S ++ (fieldsT K n).1 ++ S) = (K, n, 0) ∧ (K = 2 → (fieldsT K n).1 = [(clN, Lib.decDigits n)] ∧ ofT (S ++ (fieldsT K n).1 ++ S ++ (fieldsT K n).1) = (2, n, 0)) ∧ ∀ f ∈ (fieldsT K n).1, f.1.length ≤ 100 ∧ f.2.length ≤ 100 := by
  obtain ⟨v1, v2⟩ := ot_values hS
  have h0 : ckT K n = 0 := ck0 (by omega) (by omega)
  have hv : ∀ L : List Fld, ofT (S ++ L ++ S) = ofT L := fun L => ofT_vals (by rw [values_cat, values_cat, v1]; simp) (by rw [values_cat, values_cat, v2]; simp)
  rw [hv, fields_0 h0]
  obtain rfl | rfl | rfl : K = 1 ∨ K = 2 ∨ K = 3 := by omega
  · obtain rfl : n = 0 := by omega
    exact ⟨rfl, by decide, by decide +kernel, (by intro h; cases h), by intro f hf; simp at hf⟩
  · obtain ⟨o1, o2, _, o4⟩ := decOk_at n hn
    obtain ⟨c1, c2⟩ := cl_one (Lib.decDigits n)
    rw [if_pos (show ((2 : Nat) : Int) = 2 from rfl), show ((n : Int)).toNat = n from rfl]
    refine ⟨rfl, by simp, ofT_V c1 c2 o1 (.inl rfl) hn, fun _ => ⟨rfl, ofT_V (L := [n, n]) (V := [Lib.decDigits n, Lib.decDigits n]) ?_ ?_ o2 (.inr rfl) hn⟩, ?_⟩
    · rw [values_cat, values_cat, values_cat, v1, c1]; rfl
    · rw [values_cat, values_cat, values_cat, v2, c2]; rfl
    · intro f hf
      simp at hf
      subst hf
      exact ⟨(by decide : clN.length ≤ 100), by simp only; omega⟩
  · obtain rfl : n = 0 := by omega
    rw [if_neg (show ¬ ((3 : Nat) : Int) = 2 by decide), if_pos (show ((3 : Nat) : Int) = 3 from rfl)]
    exact ⟨rfl, by simp, by decide +kernel, (by intro h; cases h), by decide⟩
theorem back_last {n : Nat} (hn : n ≤ 2048) : ofT [([67, 79, 78, 84, 69, 78, 84, 45, 108, 101, 110, 103, 116, 104], Lib.decDigits n ++ [32, 44, 9, 48] ++ Lib.decDigits n)] = (2, n, 0) ∧ (Lib.decDigits n).length ≤ 4 := by
  obtain ⟨_, _, o3, o4⟩ := decOk_at n hn
  obtain ⟨c1, c2⟩ := CL_one (Lib.decDigits n ++ [32, 44, 9, 48] ++ Lib.decDigits n)
  exact ⟨ofT_V c1 c2 o3 (.inr rfl) hn, o4⟩
/-- a list of fields appended to a list that the call owns -/
theorem app_list {base : Nat} {W : World} {v : Value} {xs : List Fld} (ho : W.ownsRow base 36 2 v xs.length (fldsC xs)) (hb : base ≤ W.heap.size) (A : Option Addr) (n c : Nat) (ys : List Fld) (hr : Reads W W.heap.size 2 A n (fldsC ys)) (hl : xs.length + ys.length ≤ 1000000) :
    ∃ v' w', (Builtin.append_ #[24, 24] 24 #[v, .slice A n c]).run Tryd.prog W = .ok v' w' ∧ w'.ownsRow base 36 2 v' (xs ++ ys).length (fldsC (xs ++ ys)) ∧ Below base W w' := by
  obtain rfl := hr.flen
  obtain ⟨i0, hi, hz0, hz1, hz2⟩ := info_parts infoFldA
  obtain ⟨v', w', hrun, hown, hg, _⟩ := run_append_any (P := Tryd.prog) W base 24 24 36 i0 (.agg #[.string .empty, .string .empty]) 2 32 Tryd.underlying24 hi hz0 hz1 hz2 rfl (by decide) v xs.length (fldsC xs) ho W.heap.size A ys.length c (fldsC ys) hr (fldsC_one ys) (by unfold maxLen; omega) (by omega) hb
  refine ⟨v', w', hrun, ?_, (Below.refl base W).grown hg hb (own_ge ho)⟩
  have e : fldsC (xs ++ ys) = fldsC xs ++ fldsC ys := by unfold fldsC; simp
  rw [e, List.length_append]; exact hown
end
end Go.Proofs.YtpdohlnobbimaaaDoor
