/-
  The contracts of package byteset that tokens want: Not, Common, All.
-/
import Derived.Test.YthhlnpfcpgfcfaaGreatDoorBs1
import Derived.Laws.BitsAllLaws
import Derived.Deep.QuietTactic
import Derived.BigQuiet
import Derived.Deep.RegionHeld3
namespace Go.Proofs.YthhlnpfcpgfcfaaGreatDoor
open Go.RowKit

theorem word_not (p : Nat → Bool) (k : Nat) : 18446744073709551615 ^^^ word p k = word (fun x => !p x) k := by
  refine word_ext _ _ (Nat.xor_lt_two_pow (n := 64) (by decide) (word_lt p k)) (word_lt _ k) fun i hi => ?_
  rw [Nat.testBit_xor, word_bit _ _ _ hi, word_bit _ _ _ hi, show (18446744073709551615 : Nat) = 2 ^ 64 - 1 by decide, Nat.testBit_two_pow_sub_one]
  simp [hi]
/-- the words while a set is being turned: the first j are done -/
def notW (p : Nat → Bool) (j : Nat) : Array Value :=
  #[.int .u64 (word (if 0 < j then fun x => !p x else p) 0), .int .u64 (word (if 1 < j then fun x => !p x else p) 1),
    .int .u64 (word (if 2 < j then fun x => !p x else p) 2), .int .u64 (word (if 3 < j then fun x => !p x else p) 3)]
theorem notW_zero (p : Nat → Bool) : notW p 0 = setW p := rfl
theorem notW_four (p : Nat → Bool) : notW p 4 = setW (fun x => !p x) := rfl
theorem notW_get (p : Nat → Bool) (j : Nat) (hj : j < 4) : (notW p j)[j]? = some (.int .u64 (word p j)) := by
  have h4 : j = 0 ∨ j = 1 ∨ j = 2 ∨ j = 3 := by omega
  rcases h4 with h | h | h | h <;> subst h <;> rfl
theorem notW_put (p : Nat → Bool) (j : Nat) (hj : j < 4) : (notW p j).setIfInBounds j (.int .u64 ((18446744073709551615 ^^^ word p j : Nat) : Int)) = notW p (j + 1) := by
  rw [word_not]
  have h4 : j = 0 ∨ j = 1 ∨ j = 2 ∨ j = 3 := by omega
  rcases h4 with h | h | h | h <;> subst h <;> rfl

theorem Not_any (p : Nat → Bool) (w : World) : Calls Tryz.prog 148 #[setV p] w fun e w' => e = .returned (setV fun x => !p x) ∧ Below w.heap.size w w' := by
  unfold setV
  have e : setW p = #[.int .u64 (word p 0), .int .u64 (word p 1), .int .u64 (word p 2), .int .u64 (word p 3)] := rfl
  rw [e]
  go_enter Tryz.func148, Tryz.ntmps148
  go_wp2_with fail
  go_loopw [3, 4] (fun _ i wr => ∃ j : Nat, i = .int .i64 j ∧ j ≤ 4 ∧ Hid (Blk wr w.heap.size 141 (notW p j)) ∧ Hid (Blk wr (w.heap.size + 1) 141 (setW fun _ => false)) ∧ Below w.heap.size w wr) (fun _ i _ => 4 - (intOf i).toNat)
  case atStart =>
    have hA := Blk.new (w.alloc (.cells (setW p) 141)) 141 (setW fun _ => false)
    have hB := (Blk.new w 141 (setW p)).alloc (.cells (setW fun _ => false) 141)
    have hC := ((Below.refl w.heap.size w).alloc (Nat.le_refl _) (.cells (setW p) 141)).alloc (by simp) (.cells (setW fun _ => false) 141)
    rw [setW_none] at hA hB hC
    refine ⟨0, rfl, by omega, hide hB, hide ?_, hC⟩
    rw [setW_none]
    have e1 : (w.alloc (.cells (setW p) 141)).heap.size = w.heap.size + 1 := by simp
    rw [e1] at hA
    exact hA
  case round =>
    obtain ⟨j, rfl, hj, HM, HZ, hb⟩ := hrel
    rename World => W1
    by_cases hj4 : j < 4
    · have hm : W1.cell? ⟨w.heap.size, j, none⟩ = some (.int .u64 (word p j)) := by rw [HM.out.cell, notW_get _ _ hj4]
      have hfz := HM.out.frozen j
      go_wp2_with fail
      go_roundw
      case rel =>
        have h0 := word_lt p j
        have h3 := HM.out.set_ j (.int .u64 ((18446744073709551615 ^^^ word p j : Nat) : Int))
        rw [notW_put p j hj4] at h3
        have hx : bits .xor .u64 (if IntKind.u64.signed = true then -1 else IntKind.u64.max) (word p j) = ((18446744073709551615 ^^^ word p j : Nat) : Int) := by
          have := u64_xor 18446744073709551615 (word p j) (by omega) (by omega) (by omega) (by omega)
          exact this
        rw [hx]
        exact ⟨j + 1, by go_num, by omega, hide h3, hide (HZ.out.far (by simp) _), hb.setCell (by simp) _⟩
      case measure => simp [intOf]; omega
    · have hj5 : j = 4 := by omega
      subst hj5
      have hS := HM.out
      have hZ := HZ.out
      rw [notW_four] at hS
      obtain ⟨s0, s1, s2, s3⟩ := blk_setW hS
      obtain ⟨z0, z1, z2, z3⟩ := blk_setW hZ
      have f0 := hZ.frozen 0; have f1 := hZ.frozen 1; have f2 := hZ.frozen 2; have f3 := hZ.frozen 3
      go_wp2_with fail
      refine bodyPost_ret (results_cell_row (p := 2) (ty := 141) (by kernel_rfl) _ _ (w.heap.size + 1) 141 (setW fun x => !p x) (0, 0) (.array 4 139) rfl ((((hZ.set_ 0 _).set_ 1 _).set_ 2 _).set_ 3 _) Tryz.underlying141 rfl (by kernel_rfl)) rfl ?_
      exact ⟨rfl, (((hb.setCell (by simp) _).setCell (by simp) _).setCell (by simp) _).setCell (by simp) _⟩
/-- the words while two sets are being cut: the first j are done -/
def andW (p q : Nat → Bool) (j : Nat) : Array Value :=
  #[.int .u64 (word (if 0 < j then fun x => p x && q x else p) 0), .int .u64 (word (if 1 < j then fun x => p x && q x else p) 1),
    .int .u64 (word (if 2 < j then fun x => p x && q x else p) 2), .int .u64 (word (if 3 < j then fun x => p x && q x else p) 3)]
theorem andW_zero (p q : Nat → Bool) : andW p q 0 = setW p := rfl
theorem andW_four (p q : Nat → Bool) : andW p q 4 = setW (fun x => p x && q x) := rfl
theorem andW_get (p q : Nat → Bool) (j : Nat) (hj : j < 4) : (andW p q j)[j]? = some (.int .u64 (word p j)) := by
  have h4 : j = 0 ∨ j = 1 ∨ j = 2 ∨ j = 3 := by omega
  rcases h4 with h | h | h | h <;> subst h <;> rfl
theorem andW_put (p q : Nat → Bool) (j : Nat) (hj : j < 4) : (andW p q j).setIfInBounds j (.int .u64 ((word p j &&& word q j : Nat) : Int)) = andW p q (j + 1) := by
  rw [word_and]
  have h4 : j = 0 ∨ j = 1 ∨ j = 2 ∨ j = 3 := by omega
  rcases h4 with h | h | h | h <;> subst h <;> rfl
def allP (ps : List (Nat → Bool)) (x : Nat) : Bool := ps.all fun p => p x
theorem allP_snoc (ps : List (Nat → Bool)) (p : Nat → Bool) : allP (ps ++ [p]) = fun x => allP ps x && p x := by
  funext x; simp [allP]
theorem NotZ (w : World) : Calls Tryz.prog 148 #[.agg #[.int .u64 0, .int .u64 0, .int .u64 0, .int .u64 0]] w fun e w' =>
    e = .returned (.agg #[.int .u64 (word (allP []) 0), .int .u64 (word (allP []) 1), .int .u64 (word (allP []) 2), .int .u64 (word (allP []) 3)]) ∧ Below w.heap.size w w' := by
  have h := Not_any (fun _ => false) w
  unfold setV at h
  rw [setW_none] at h
  exact h

theorem Common_any (A : Option Addr) (len c : Nat) (ps : List (Nat → Bool)) (w : World) (hr : Reads w w.heap.size 4 A len (setsC ps)) (hlen : len ≤ 9223372036854775807) :
    Calls Tryz.prog 126 #[.slice A len c] w fun e w' => e = .returned (setV (allP ps)) ∧ Below w.heap.size w w' := by
  have hpl : ps.length = len := by have := hr.1; rw [setsC_len] at this; omega
  have HR := Lib.hid hr
  clear hr
  go_enter Tryz.func126, Tryz.ntmps126
  have CN := Lib.hid NotZ
  go_wp2_with fail
  (with_reducible refine (CN.out _).mono ?_); rintro e w1 ⟨rfl, hb1⟩
  have hlt1 : w.heap.size < w1.heap.size := by have := hb1.size; simp at this; omega
  have hZ0 : Blk w1 w.heap.size 141 (setW fun _ => false) := by
    rw [setW_none]
    exact (Blk.new w _ _).below hb1 (by simp; try omega)
  have hbw1 : Below w.heap.size w w1 := ((Below.refl w.heap.size w).alloc (Nat.le_refl _) _).trans (hb1.mono (by simp; try omega))
  go_wp2_with fail
  go_loopw [5, 6, 11] (fun _ _ i wr => ∃ k : Nat, i = .int .i64 k ∧ k ≤ len ∧ Hid (Blk wr w1.heap.size 141 (setW (allP (ps.take k)))) ∧ Hid (Blk wr w.heap.size 141 (setW fun _ => false)) ∧ Below w.heap.size w wr) (fun _ _ i _ => len - (intOf i).toNat)
  case atStart => exact ⟨0, rfl, by omega, hide (Blk.new _ _ _), hide (hZ0.alloc _), hbw1.alloc (by omega) _⟩
  case round =>
    obtain ⟨k, rfl, hk, HS, HZ, hb⟩ := hrel
    rename World => W0
    by_cases hlt : k < len
    · obtain ⟨ad, hA, hadb, hc⟩ := HR.out.2 (by omega)
      subst hA
      have hkl : k < ps.length := by omega
      obtain ⟨p, hp⟩ : ∃ p, ps[k]? = some p := ⟨_, List.getElem?_eq_getElem hkl⟩
      have hcell : ∀ j, j < 4 → W0.cell? (ad.add (4 * k + j)) = some (.int .u64 (word p j)) := fun j hj => by
        rw [hb.cell (by rw [block_of_add]; exact hadb)]
        exact hc _ _ (setsC_get ps k j p hp hj)
      have htk : ps.take (k + 1) = ps.take k ++ [p] := by rw [List.take_add_one, hp]; rfl
      obtain ⟨ab, ao, spot⟩ := ad
      have hspot : spot = none := by simpa [Addr.add] using World.cell?_spot (hc 0 _ (setsC_get ps 0 0 _ (List.getElem?_eq_getElem (by omega)) (by omega)))
      subst hspot
      have hcl : ∀ j, j < 4 → W0.cell? ⟨ab, ao + k * 4 + j, none⟩ = some (.int .u64 (word p j)) := fun j hj => by
        have := hcell j hj
        rw [Addr.add_lit] at this
        rw [← this]; congr 2; omega
      have hc0 := hcl 0 (by omega); have hc1 := hcl 1 (by omega); have hc2 := hcl 2 (by omega); have hc3 := hcl 3 (by omega)
      rw [Nat.add_zero] at hc0
      clear hcell hc hcl
      have hlt0 := HS.out.lt
      obtain ⟨q, hq⟩ : ∃ q, allP (ps.take k) = q := ⟨_, rfl⟩
      have htq : allP (ps.take (k + 1)) = fun x => q x && p x := by rw [htk, allP_snoc, hq]
      rw [hq] at HS
      go_wp2_with fail
      go_loopw [6, 15] (fun _ i wr => ∃ j : Nat, i = .int .i64 j ∧ j ≤ 4 ∧ Hid (Blk wr w1.heap.size 141 (andW q p j)) ∧ Hid (Blk wr w.heap.size 141 (setW fun _ => false)) ∧ Hid (Blk wr W0.heap.size 141 (setW p)) ∧ Below w.heap.size w wr) (fun _ i _ => 4 - (intOf i).toNat)
      case atStart =>
        exact ⟨0, rfl, by omega, hide (HS.out.alloc _), hide (HZ.out.alloc _), hide (Blk.new _ _ _), hb.alloc hb.size _⟩
      case round =>
        obtain ⟨j, rfl, hj, HM, HZ', HP, hb'⟩ := hrel
        rename World => W1
        by_cases hj4 : j < 4
        · have hm : W1.cell? ⟨w1.heap.size, j, none⟩ = some (.int .u64 (word q j)) := by rw [HM.out.cell, andW_get _ _ _ hj4]
          have hpj : W1.cell? ⟨W0.heap.size, j, none⟩ = some (.int .u64 (word p j)) := by rw [HP.out.cell, setW_get _ _ hj4]
          have hfz := HM.out.frozen j
          go_wp2_with fail
          go_region
          all_goals go_wp2_with fail
          all_goals go_roundw
          case rel =>
            have h2 := bits_and_u64_nat (word q j) (word p j) (word_lt _ _) (word_lt _ _)
            rw [h2]
            have h3 := HM.out.set_ j (.int .u64 ((word q j &&& word p j : Nat) : Int))
            rw [andW_put q p j hj4] at h3
            exact ⟨j + 1, by go_num, by omega, hide h3.drew, hide (HZ'.out.far (by simp; try omega) _).drew, hide (HP.out.far (by simp; omega) _).drew, (hb'.setCell (by simp; try omega) _).drew⟩
          case measure => simp [intOf]; omega
        · have hj5 : j = 4 := by omega
          subst hj5
          go_wp2_with fail
          go_roundw
          case rel =>
            refine ⟨k + 1, by go_num, by omega, ?_, HZ', hb'⟩
            rw [htq]; exact HM
          case measure => simp [intOf]; omega
    · have hkl : k = len := by omega
      subst hkl
      have hd : decide ((k : Int) < (k : Int)) = false := by simp
      have hS := HS.out
      have hZ := HZ.out
      rw [← hpl, List.take_length] at hS
      obtain ⟨s0, s1, s2, s3⟩ := blk_setW hS
      obtain ⟨z0, z1, z2, z3⟩ := blk_setW hZ
      have f0 := hZ.frozen 0; have f1 := hZ.frozen 1; have f2 := hZ.frozen 2; have f3 := hZ.frozen 3
      go_wp2_with fail
      refine bodyPost_ret (results_cell_row (p := 2) (ty := 141) (by kernel_rfl) _ _ w.heap.size 141 (setW (allP ps)) (0, 0) (.array 4 139) rfl ((((hZ.set_ 0 _).set_ 1 _).set_ 2 _).set_ 3 _) Tryz.underlying141 rfl (by kernel_rfl)) rfl ?_
      exact ⟨rfl, (((hb.setCell (by simp; try omega) _).setCell (by simp; try omega) _).setCell (by simp; try omega) _).setCell (by simp; try omega) _⟩
end Go.Proofs.YthhlnpfcpgfcfaaGreatDoor
