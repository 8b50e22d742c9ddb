/-
  The contracts of package byteset that tokens want: Has, Of, Union.
-/
import Derived.Test.YthhlnpfcpgfcfaaGreatDoorProg
import Derived.Test.YthhlnpfcpgfcfaaGreatDoorBase
import Derived.Test.YthhlnpfcpgfcfaaGreatDoorBsP
import Derived.Outline
import Derived.Handy
import Derived.Laws.Bits64b
import Derived.Laws.Bits64
import Derived.BigRegion
namespace Go.Proofs.YthhlnpfcpgfcfaaGreatDoor
open Go.RowKit

theorem wrap_pow (k : Nat) (h : k < 64) : IntKind.u64.wrap (2 ^ k) = ((2 ^ k : Nat) : Int) := by
  have h2 : (2 : Nat) ^ k < 18446744073709551616 := Nat.lt_of_lt_of_eq (Nat.pow_lt_pow_right (by omega) h) (by decide)
  have h3 : ((2 : Int) ^ k) = ((2 ^ k : Nat) : Int) := by simp
  rw [IntKind.wrap_u64, h3]
  obtain ⟨x, hx⟩ : ∃ x : Nat, 2 ^ k = x := ⟨_, rfl⟩
  rw [hx] at h2 ⊢
  omega
theorem shr_nat (a k : Nat) : ((a : Int) / 2 ^ k) = ((a >>> k : Nat) : Int) := by
  rw [Nat.shiftRight_eq_div_pow]; simp
def setW (p : Nat → Bool) : Array Value := #[.int .u64 (word p 0), .int .u64 (word p 1), .int .u64 (word p 2), .int .u64 (word p 3)]
def setV (p : Nat → Bool) : Value := .agg (setW p)

/-- the bytes of a list, as a set -/
def inB (l : List UInt8) (x : Nat) : Bool := l.any fun b => decide (x = b.toNat)
theorem inB_snoc (l : List UInt8) (b : UInt8) : inB (l ++ [b]) = fun x => inB l x || decide (x = b.toNat) := by
  funext x; simp [inB]
theorem setW_put (p : Nat → Bool) (n : Nat) (hn : n < 256) : (setW p).setIfInBounds (n / 64) (.int .u64 ((word p (n / 64) ||| 2 ^ (n % 64) : Nat) : Int)) = setW (fun x => p x || decide (x = n)) := by
  rw [word_put]
  have h4 : n / 64 = 0 ∨ n / 64 = 1 ∨ n / 64 = 2 ∨ n / 64 = 3 := by omega
  unfold setW
  rcases h4 with h | h | h | h <;> rw [h]
  · rw [word_put_other p n 1 (by omega), word_put_other p n 2 (by omega), word_put_other p n 3 (by omega)]; rfl
  · rw [word_put_other p n 0 (by omega), word_put_other p n 2 (by omega), word_put_other p n 3 (by omega)]; rfl
  · rw [word_put_other p n 1 (by omega), word_put_other p n 0 (by omega), word_put_other p n 3 (by omega)]; rfl
  · rw [word_put_other p n 1 (by omega), word_put_other p n 2 (by omega), word_put_other p n 0 (by omega)]; rfl
theorem setW_get (p : Nat → Bool) (k : Nat) (hk : k < 4) : (setW p)[k]? = some (.int .u64 (word p k)) := by
  have h4 : k = 0 ∨ k = 1 ∨ k = 2 ∨ k = 3 := by omega
  rcases h4 with h | h | h | h <;> rw [h] <;> rfl
theorem setW_none : setW (fun _ => false) = #[.int .u64 0, .int .u64 0, .int .u64 0, .int .u64 0] := by
  unfold setW; simp [word_none]

theorem blk_setW {w : World} {g : Nat} {t : TypeId} {p : Nat → Bool} (h : Blk w g t (setW p)) :
    w.cell? ⟨g, 0, none⟩ = some (.int .u64 (word p 0)) ∧ w.cell? ⟨g, 1, none⟩ = some (.int .u64 (word p 1)) ∧ w.cell? ⟨g, 2, none⟩ = some (.int .u64 (word p 2)) ∧ w.cell? ⟨g, 3, none⟩ = some (.int .u64 (word p 3)) :=
  ⟨h.cell 0, h.cell 1, h.cell 2, h.cell 3⟩
theorem Of_any (A : Option Addr) (len c : Nat) (bs : List UInt8) (w : World) (hr : Reads w w.heap.size 1 A len (bs.map fun b => Value.int .u8 b.toNat)) (hlen : len ≤ 9223372036854775807) :
    Calls Tryz.prog 125 #[.slice A len c] w fun e w' => e = .returned (setV (inB bs)) ∧ Below w.heap.size w w' := by
  have hbl : bs.length = len := by have := hr.1; simpa using this
  have HR := Lib.hid hr
  clear hr
  go_enter Tryz.func125, Tryz.ntmps125
  go_wp2_with fail
  go_loopw [5, 8] (fun _ i wr => ∃ k : Nat, i = .int .i64 k ∧ k ≤ len ∧ Hid (Blk wr (w.heap.size + 1) 141 (setW (inB (bs.take k)))) ∧ Hid (Blk wr w.heap.size 141 (setW fun _ => false)) ∧ Below w.heap.size w wr) (fun _ i _ => len - (intOf i).toNat)
  case atStart =>
    have h0 := setW_none
    have hA := Blk.new (w.alloc (.cells (setW fun _ => false) 141)) 141 (setW fun _ => false)
    have hB := (Blk.new w 141 (setW fun _ => false)).alloc (.cells (setW fun _ => false) 141)
    have hC := ((Below.refl w.heap.size w).alloc (Nat.le_refl _) (.cells (setW fun _ => false) 141)).alloc (by simp) (.cells (setW fun _ => false) 141)
    rw [h0] at hA hB hC
    refine ⟨0, rfl, by omega, hide ?_, hide ?_, hC⟩
    · rw [show inB (bs.take 0) = fun _ => false from rfl, h0]
      simpa using hA
    · rw [h0]; exact hB
  case round =>
    obtain ⟨k, rfl, hk, HS, HZ, hb⟩ := hrel
    rename World => W0
    by_cases hlt : k < len
    · obtain ⟨ad, u, hA, hadb, hx, hc⟩ := HR.out.at_ hlt
      subst hA
      have hkl : k < bs.length := by omega
      have hu : u = .int .u8 bs[k].toNat := by rw [List.getElem?_map, List.getElem?_eq_getElem hkl] at hx; simpa using hx.symm
      subst hu
      have hcell : W0.cell? (ad.add k) = some (.int .u8 bs[k].toNat) := by
        rw [hb.cell (by rw [block_of_add]; exact hadb)]; exact hc
      have hb8 := bs[k].toNat_lt
      have htk : bs.take (k + 1) = bs.take k ++ [bs[k]] := by rw [List.take_succ_eq_append_getElem hkl]
      obtain ⟨z, hz⟩ : ∃ z, bs[k] = z := ⟨_, rfl⟩
      rw [hz] at hcell hb8 htk
      obtain ⟨n, hn⟩ : ∃ n, z.toNat = n := ⟨_, rfl⟩
      rw [hn] at hcell hb8
      have hn8 : n < 256 := hb8
      have hcs : W0.cell? ⟨w.heap.size + 1, n / 64, none⟩ = some (.int .u64 (word (inB (bs.take k)) (n / 64))) := by
        rw [HS.out.cell, setW_get _ _ (by omega)]
      have hfz := HS.out.frozen (n / 64)
      clear hx hc hb8
      go_wp2_with fail
      go_roundw
      case rel =>
        have h1 : IntKind.u64.wrap (2 ^ (n % 64)) = ((2 ^ (n % 64) : Nat) : Int) := wrap_pow _ (Nat.mod_lt _ (by omega))
        have h2 := bits_or_u64_nat (word (inB (bs.take k)) (n / 64)) (2 ^ (n % 64)) (word_lt _ _) (Nat.pow_lt_pow_right (by omega) (Nat.mod_lt _ (by omega)))
        rw [h1, h2]
        refine ⟨k + 1, by go_num, by omega, hide ?_, hide (HZ.out.far (by simp) _), hb.setCell (by simp) _⟩
        have h3 := HS.out.set_ (n / 64) (.int .u64 ((word (inB (bs.take k)) (n / 64) ||| 2 ^ (n % 64) : Nat) : Int))
        rw [setW_put _ n hn8] at h3
        rw [htk, inB_snoc, hn]
        exact h3
      case measure => simp [intOf]; omega
    · have hkl : k = len := by omega
      subst hkl
      have hd : decide ((k : Int) < (k : Int)) = false := by simp
      have hS := HS.out
      have hZ := HZ.out
      rw [← hbl, List.take_length] at hS
      obtain ⟨s0, s1, s2, s3⟩ := blk_setW hS
      obtain ⟨z0, z1, z2, z3⟩ := blk_setW hZ
      have f0 := hZ.frozen 0; have f1 := hZ.frozen 1; have f2 := hZ.frozen 2; have f3 := hZ.frozen 3
      go_wp2_with fail
      refine bodyPost_ret (results_cell_row (p := 2) (ty := 141) (by kernel_rfl) _ _ w.heap.size 141 (setW (inB bs)) (0, 0) (.array 4 139) rfl ((((hZ.set_ 0 _).set_ 1 _).set_ 2 _).set_ 3 _) Tryz.underlying141 rfl (by kernel_rfl)) rfl ?_
      exact ⟨rfl, (((hb.setCell (by simp) _).setCell (by simp) _).setCell (by simp) _).setCell (by simp) _⟩

def anyP (ps : List (Nat → Bool)) (x : Nat) : Bool := ps.any fun p => p x
def setsC (ps : List (Nat → Bool)) : List Value := ps.flatMap fun p => (setW p).toList
theorem setsC_len (ps : List (Nat → Bool)) : (setsC ps).length = ps.length * 4 := by
  induction ps with
  | nil => rfl
  | cons p ps ih => simp only [setsC, List.flatMap_cons, List.length_append] at ih ⊢; rw [ih]; simp [setW]; omega
theorem setsC_get (ps : List (Nat → Bool)) (k j : Nat) (p : Nat → Bool) (hk : ps[k]? = some p) (hj : j < 4) : (setsC ps)[4 * k + j]? = some (.int .u64 (word p j)) := by
  induction ps generalizing k with
  | nil => simp at hk
  | cons q ps ih =>
    simp only [setsC, List.flatMap_cons]
    cases k with
    | zero =>
      simp at hk; subst hk
      rw [List.getElem?_append_left (by simp [setW]; omega)]
      have := setW_get q j hj
      simpa using this
    | succ k =>
      rw [List.getElem?_append_right (by simp [setW]; omega)]
      have h := ih k (by simpa using hk)
      rw [← h]
      simp only [setsC]
      congr 1
      simp [setW]; omega

/-- the words while two sets are being joined: the first j are done -/
def mixW (p q : Nat → Bool) (j : Nat) : Array Value :=
  #[.int .u64 (word (if 0 < j then fun x => p x || q x else p) 0), .int .u64 (word (if 1 < j then fun x => p x || q x else p) 1),
    .int .u64 (word (if 2 < j then fun x => p x || q x else p) 2), .int .u64 (word (if 3 < j then fun x => p x || q x else p) 3)]
theorem mixW_zero (p q : Nat → Bool) : mixW p q 0 = setW p := rfl
theorem mixW_four (p q : Nat → Bool) : mixW p q 4 = setW (fun x => p x || q x) := rfl
theorem mixW_get (p q : Nat → Bool) (j : Nat) (hj : j < 4) : (mixW p q j)[j]? = some (.int .u64 (word p j)) := by
  have h4 : j = 0 ∨ j = 1 ∨ j = 2 ∨ j = 3 := by omega
  rcases h4 with h | h | h | h <;> subst h <;> rfl
theorem mixW_put (p q : Nat → Bool) (j : Nat) (hj : j < 4) : (mixW p q j).setIfInBounds j (.int .u64 ((word p j ||| word q j : Nat) : Int)) = mixW p q (j + 1) := by
  rw [word_or]
  have h4 : j = 0 ∨ j = 1 ∨ j = 2 ∨ j = 3 := by omega
  rcases h4 with h | h | h | h <;> subst h <;> rfl
theorem anyP_snoc (ps : List (Nat → Bool)) (p : Nat → Bool) : anyP (ps ++ [p]) = fun x => anyP ps x || p x := by
  funext x; simp [anyP]

theorem Union_any (A : Option Addr) (len c : Nat) (ps : List (Nat → Bool)) (w : World) (hr : Reads w w.heap.size 4 A len (setsC ps)) (hlen : len ≤ 9223372036854775807) :
    Calls Tryz.prog 128 #[.slice A len c] w fun e w' => e = .returned (setV (anyP ps)) ∧ Below w.heap.size w w' := by
  have hpl : ps.length = len := by have := hr.1; rw [setsC_len] at this; omega
  have HR := Lib.hid hr
  clear hr
  go_enter Tryz.func128, Tryz.ntmps128
  go_wp2_with fail
  go_loopw [5, 6, 9] (fun _ _ i wr => ∃ k : Nat, i = .int .i64 k ∧ k ≤ len ∧ Hid (Blk wr (w.heap.size + 1) 141 (setW (anyP (ps.take k)))) ∧ Hid (Blk wr w.heap.size 141 (setW fun _ => false)) ∧ Below w.heap.size w wr) (fun _ _ i _ => len - (intOf i).toNat)
  case atStart =>
    have h0 := setW_none
    have hA := Blk.new (w.alloc (.cells (setW fun _ => false) 141)) 141 (setW fun _ => false)
    have hB := (Blk.new w 141 (setW fun _ => false)).alloc (.cells (setW fun _ => false) 141)
    have hC := ((Below.refl w.heap.size w).alloc (Nat.le_refl _) (.cells (setW fun _ => false) 141)).alloc (by simp) (.cells (setW fun _ => false) 141)
    rw [h0] at hA hB hC
    refine ⟨0, rfl, by omega, hide ?_, hide ?_, hC⟩
    · rw [show anyP (ps.take 0) = fun _ => false from rfl, h0]
      simpa using hA
    · rw [h0]; exact hB
  case round =>
    obtain ⟨k, rfl, hk, HS, HZ, hb⟩ := hrel
    rename World => W0
    by_cases hlt : k < len
    · obtain ⟨ad, hA, hadb, hc⟩ := HR.out.2 (by omega)
      subst hA
      have hkl : k < ps.length := by omega
      obtain ⟨p, hp⟩ : ∃ p, ps[k]? = some p := ⟨_, List.getElem?_eq_getElem hkl⟩
      have hcell : ∀ j, j < 4 → W0.cell? (ad.add (4 * k + j)) = some (.int .u64 (word p j)) := fun j hj => by
        rw [hb.cell (by rw [block_of_add]; exact hadb)]
        exact hc _ _ (setsC_get ps k j p hp hj)
      have htk : ps.take (k + 1) = ps.take k ++ [p] := by rw [List.take_add_one, hp]; rfl
      obtain ⟨ab, ao, spot⟩ := ad
      have hspot : spot = none := by simpa [Addr.add] using World.cell?_spot (hc 0 _ (setsC_get ps 0 0 _ (List.getElem?_eq_getElem (by omega)) (by omega)))
      subst hspot
      have hcl : ∀ j, j < 4 → W0.cell? ⟨ab, ao + k * 4 + j, none⟩ = some (.int .u64 (word p j)) := fun j hj => by
        have := hcell j hj
        rw [Addr.add_lit] at this
        rw [← this]; congr 2; omega
      have hc0 := hcl 0 (by omega); have hc1 := hcl 1 (by omega); have hc2 := hcl 2 (by omega); have hc3 := hcl 3 (by omega)
      rw [Nat.add_zero] at hc0
      clear hcell hc hcl
      have hlt0 := HS.out.lt
      obtain ⟨q, hq⟩ : ∃ q, anyP (ps.take k) = q := ⟨_, rfl⟩
      have htq : anyP (ps.take (k + 1)) = fun x => q x || p x := by rw [htk, anyP_snoc, hq]
      rw [hq] at HS
      go_wp2_with fail
      go_loopw [6, 13] (fun _ i wr => ∃ j : Nat, i = .int .i64 j ∧ j ≤ 4 ∧ Hid (Blk wr (w.heap.size + 1) 141 (mixW q p j)) ∧ Hid (Blk wr w.heap.size 141 (setW fun _ => false)) ∧ Hid (Blk wr W0.heap.size 141 (setW p)) ∧ Below w.heap.size w wr) (fun _ i _ => 4 - (intOf i).toNat)
      case atStart =>
        exact ⟨0, rfl, by omega, hide (HS.out.alloc _), hide (HZ.out.alloc _), hide (Blk.new _ _ _), hb.alloc hb.size _⟩
      case round =>
        obtain ⟨j, rfl, hj, HM, HZ', HP, hb'⟩ := hrel
        rename World => W1
        by_cases hj4 : j < 4
        · have hm : W1.cell? ⟨w.heap.size + 1, j, none⟩ = some (.int .u64 (word q j)) := by rw [HM.out.cell, mixW_get _ _ _ hj4]
          have hpj : W1.cell? ⟨W0.heap.size, j, none⟩ = some (.int .u64 (word p j)) := by rw [HP.out.cell, setW_get _ _ hj4]
          have hfz := HM.out.frozen j
          go_wp2_with fail
          go_region
          all_goals go_wp2_with fail
          all_goals go_roundw
          case rel =>
            have h2 := bits_or_u64_nat (word q j) (word p j) (word_lt _ _) (word_lt _ _)
            rw [h2]
            have h3 := HM.out.set_ j (.int .u64 ((word q j ||| word p j : Nat) : Int))
            rw [mixW_put q p j hj4] at h3
            exact ⟨j + 1, by go_num, by omega, hide h3.drew, hide (HZ'.out.far (by simp) _).drew, hide (HP.out.far (by simp; omega) _).drew, (hb'.setCell (by simp) _).drew⟩
          case measure => simp [intOf]; omega
        · have hj5 : j = 4 := by omega
          subst hj5
          go_wp2_with fail
          go_roundw
          case rel =>
            refine ⟨k + 1, by go_num, by omega, ?_, HZ', hb'⟩
            rw [htq]; exact HM
          case measure => simp [intOf]; omega
    · have hkl : k = len := by omega
      subst hkl
      have hd : decide ((k : Int) < (k : Int)) = false := by simp
      have hS := HS.out
      have hZ := HZ.out
      rw [← hpl, List.take_length] at hS
      obtain ⟨s0, s1, s2, s3⟩ := blk_setW hS
      obtain ⟨z0, z1, z2, z3⟩ := blk_setW hZ
      have f0 := hZ.frozen 0; have f1 := hZ.frozen 1; have f2 := hZ.frozen 2; have f3 := hZ.frozen 3
      go_wp2_with fail
      refine bodyPost_ret (results_cell_row (p := 2) (ty := 141) (by kernel_rfl) _ _ w.heap.size 141 (setW (anyP ps)) (0, 0) (.array 4 139) rfl ((((hZ.set_ 0 _).set_ 1 _).set_ 2 _).set_ 3 _) Tryz.underlying141 rfl (by kernel_rfl)) rfl ?_
      exact ⟨rfl, (((hb.setCell (by simp) _).setCell (by simp) _).setCell (by simp) _).setCell (by simp) _⟩
end Go.Proofs.YthhlnpfcpgfcfaaGreatDoor
