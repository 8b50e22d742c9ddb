/-
  strconv.FormatInt at base 16, strconv.Itoa: the numerals.
-/
import Derived.Test.YthhlnpfcpgfcfaaGreatDoorRows
import Derived.Test.YthhlnpfcpgfcfaaGreatDoorShelfN
import Derived.Test.YthhlnpfcpgfcfaaGreatDoorBase
import Derived.WalkKit
import Derived.WalkSpells
import Derived.WalkLawsBesides
import Derived.Lib.Hide
import Derived.Lib.ItoaMem
import Derived.Lib.AppendIntMem
import Derived.BigCall
import Derived.BigGuard
import Derived.Laws.Bits64b
import Derived.Laws.BitsAllLaws
import Derived.Lib.ItoaWalk
namespace Go.Proofs.YthhlnpfcpgfcfaaGreatDoor
open Go.RowKit Go.Sort Go.Lib

/-- what the contracts ask of the listed tables, in a world and in all that follow it -/
structure Tabs (w : World) : Prop where
  pow : Lib.TabIs Tryz.prog w "internal/strconv.uint64pow10" .u64 Lib.pow10Tab
  tz : TabAt 10 Lib.deBruijn64tab w
theorem Tabs.below {w w' : World} (h : Tabs w) (hb : Below w.heap.size w w') : Tabs w' := by
  refine ⟨Lib.tabBelow_of_tabIs h.pow w' hb, fun j hj => ?_⟩
  have h0 := h.tz j hj
  have hlt : (10 : Nat) < w.heap.size := by
    rcases Nat.lt_or_ge 10 w.heap.size with h' | h'
    · exact h'
    · unfold World.cell? at h0; simp [Array.getElem?_eq_none h'] at h0
  exact (hb.cell (p := ⟨10, j, none⟩) hlt).trans h0
theorem Tabs.alloc {w : World} (h : Tabs w) (o : Obj) : Tabs (w.alloc o) := h.below ((Below.refl _ _).alloc (Nat.le_refl _) o)

/-- a hexadecimal digit, small letters -/
def hxd (d : Nat) : UInt8 := if d < 10 then UInt8.ofNat (48 + d) else UInt8.ofNat (87 + d)
/-- the hexadecimal numeral -/
def hexDigits (u : Nat) : List UInt8 := if _h : u < 16 then [hxd u] else hexDigits (u / 16) ++ [hxd (u % 16)]
termination_by u
decreasing_by omega
theorem hexDigits_small {u : Nat} (h : u < 16) : hexDigits u = [hxd u] := by rw [hexDigits, dif_pos h]
theorem hexDigits_big {u : Nat} (h : ¬ u < 16) : hexDigits u = hexDigits (u / 16) ++ [hxd (u % 16)] := by rw [hexDigits, dif_neg h]

theorem digits36_at : ∀ p : Fin 16, Lib.digits36.data.toList.getD p.val 0 = hxd p.val := by decide +kernel
theorem idx_digits {P : Program} (t : TypeId) (ht : P.underlying t = some .string) (k : IntKind) (z : Int) (i : Nat) (hz : z = (i : Int)) (hi : i < 16) (w : World) :
    (Instr.index t (.string Lib.digits36) (.int k z)).run P w = .ok (.int .u8 ((hxd i).toNat : Int)) w := by
  subst hz
  rw [run_index_string w t Lib.digits36 k _ ht, dif_pos ⟨by omega, by rw [Lib.digits36_size]; omega⟩]
  have e : ((i : Int)).toNat = i := by omega
  simp only [e]
  have h1 := digits36_at ⟨i, hi⟩
  rw [List.getD_eq_getElem?_getD, List.getElem?_eq_getElem (by show i < Lib.digits36.data.toList.length; rw [show Lib.digits36.data.toList.length = Lib.digits36.size from by simp, Lib.digits36_size]; omega)] at h1
  simp only [Option.getD_some] at h1
  rw [← h1]
  rfl

set_option maxHeartbeats 400000 in
theorem isPow16 (w : World) : Calls Tryz.prog 145 #[.int .i64 16] w fun e w' => e = .returned (.bool true) ∧ w = w' := by
  go_enter Tryz.func145, Tryz.ntmps145
  go_wp2
  go_ret
  exact ⟨rfl, rfl⟩
theorem tz16 (w : World) (h : Tabs w) : Calls Tryz.prog 146 #[.int .u64 16] w fun e w' => e = .returned (.int .i64 4) ∧ w = w' :=
  (Any7.bits_TrailingZeros Tryz.lays27 16 (by omega) w (fun _ => h.tz)).mono fun e w' ⟨he, hw⟩ => ⟨he.trans (ret_int (by decide +kernel)), hw.symm⟩

/-- what the stores of formatBits have laid so far: the array's cells from k on are the digits D -/
def Tail (cs : Array Value) (k : Nat) (D : List UInt8) : Prop := cs.size = 65 ∧ k + D.length = 65 ∧ ∀ j, (h : j < D.length) → cs[k + j]? = some (.int .u8 (D[j].toNat : Int))
theorem Tail.step {cs : Array Value} {k : Nat} {D : List UInt8} (h : Tail cs (k + 1) D) (b : UInt8) : Tail (cs.setIfInBounds k (.int .u8 (b.toNat : Int))) k (b :: D) := by
  refine ⟨by simp [h.1], by have := h.2.1; simp; omega, fun j hj => ?_⟩
  have h1 := h.1
  have h2 := h.2.1
  cases j with
  | zero => simp [Array.getElem?_setIfInBounds, h1]; omega
  | succ j =>
    have := h.2.2 j (by simpa using hj)
    rw [Array.getElem?_setIfInBounds, if_neg (by omega), show k + (j + 1) = k + 1 + j by omega, this]
    rfl
theorem and15 (x : Nat) (hx : x < 18446744073709551616) : bits BinOp.and IntKind.u64 (x : Int) 15 = (x : Int) % 16 := by
  have h := bits_and_u64_nat x 15 hx (by omega)
  have h2 : x &&& 15 = x % 16 := Nat.and_two_pow_sub_one_eq_mod x 4
  rw [h2] at h
  exact h.trans (by omega)
structure HexInv (u0 x k : Nat) (D : List UInt8) : Prop where
  text : hexDigits u0 = hexDigits x ++ D
  pow : x * 16 ^ D.length ≤ u0
  len : k + D.length = 65
  few : D.length ≤ 15
theorem HexInv.le {u0 x k : Nat} {D : List UInt8} (h : HexInv u0 x k D) : x ≤ u0 := by
  have h1 := h.pow
  have h2 : x * 1 ≤ x * 16 ^ D.length := Nat.mul_le_mul_left _ (Nat.pow_pos (by decide))
  omega
theorem HexInv.step {u0 x k : Nat} {D : List UInt8} (h : HexInv u0 x (k + 1) D) (hu : u0 < 18446744073709551616) (h16 : ¬ x < 16) : HexInv u0 (x / 16) k (hxd (x % 16) :: D) := by
  refine ⟨?_, ?_, by have := h.len; simp; omega, ?_⟩
  · rw [h.text, hexDigits_big h16]; simp
  · have h1 := h.pow
    simp only [List.length_cons, Nat.pow_succ]
    have h2 : x / 16 * (16 ^ D.length * 16) = (x / 16 * 16) * 16 ^ D.length := by rw [Nat.mul_comm (16 ^ D.length) 16, ← Nat.mul_assoc]
    have h3 : (x / 16 * 16) * 16 ^ D.length ≤ x * 16 ^ D.length := Nat.mul_le_mul_right _ (by omega)
    omega
  · have h1 := h.pow
    have hf := h.few
    by_cases h3 : D.length ≤ 14
    · simp; omega
    · exfalso
      have h4 : D.length = 15 := by omega
      rw [h4] at h1
      have h6 : (16 : Nat) ^ 15 = 1152921504606846976 := by decide
      omega

set_option maxHeartbeats 2000000 in
set_option maxRecDepth 100000 in
theorem formatBits16 (u0 : Nat) (hu64 : u0 < 18446744073709551616) (w : World) (htab : Tabs w) :
    Calls Tryz.prog 119 #[.slice none 0 0, .int .u64 u0, .int .i64 16, .bool false, .bool false] w fun e w' => e = .returned (.tuple #[.slice none 0 0, .string ⟨(hexDigits u0).toArray⟩]) ∧ Below w.heap.size w w' := by
  go_enter Tryz.func119, Tryz.ntmps119
  go_name_bytes TX hTX
  go_name_bytes SM hSM
  have eSM : SM = Lib.digits36 := by rw [← hSM]; decide +kernel
  subst eSM
  clear hSM hTX
  go_wp2_with (first
    | (go_at_call 145; refine (isPow16 _).mono ?_; rintro e w' ⟨rfl, rfl⟩)
    | (go_at_call 146; refine (tz16 _ (htab.alloc _)).mono ?_; rintro e w' ⟨rfl, rfl⟩))
  go_loopw [1, 13] (fun u i wr => ∃ (x k : Nat) (cs : Array Value) (D : List UInt8), u = .int .u64 x ∧ i = .int .i64 k ∧ k ≤ 65 ∧ Hid (HexInv u0 x k D) ∧ Hid (Tail cs k D) ∧ Hid (Blk wr w.heap.size 179 cs) ∧ Below w.heap.size w wr) (fun u _ _ => (RowKit.intOf u).toNat)
  case atStart =>
    refine ⟨u0, 65, Tryz.zeroCells179, [], rfl, rfl, Nat.le_refl _, ?_, ?_, ?_, (Below.refl _ _).alloc (Nat.le_refl _) _⟩
    · exact (⟨by simp, by simp, by simp, by simp⟩ : HexInv u0 u0 65 [])
    · exact (⟨by decide +kernel, by simp, fun j hj => by simp at hj⟩ : Tail Tryz.zeroCells179 65 [])
    · exact Blk.new w _ _
  case round =>
    obtain ⟨x, k, cs, D, rfl, rfl, hk, HI, HT, HB, hb⟩ := hrel
    rename World => W0
    have hle := HI.out.le
    by_cases hlt : x < 16
    · have hk1 : 1 ≤ k := by have := HI.out.len; have := HI.out.few; omega
      obtain ⟨m, rfl⟩ : ∃ m, k = m + 1 := ⟨k - 1, by omega⟩
      have hX : ∀ w, (Instr.index 9 (.string Lib.digits36) (.int .u64 (x : Int))).run Tryz.prog w = .ok (.int .u8 ((hxd x).toNat : Int)) w := idx_digits 9 Tryz.underlying9 .u64 _ _ rfl hlt
      have hB' := HB.out
      have hc : W0.cell? ⟨w.heap.size, m, none⟩ = some (cs[m]'(by have := HT.out.1; omega)) := by rw [hB'.cell, Array.getElem?_eq_getElem]
      have hf := hB'.frozen m
      clear hB'
      have HT' := Lib.hid (HT.out.step (hxd x))
      have HB2 := Lib.hid (HB.out.set_ m (.int .u8 ((hxd x).toNat : Int)))
      have hsl : ∀ W, (Instr.sliceAt 179 (.pointer (some ⟨w.heap.size, 0, none⟩)) (some (.int .i64 (m : Int))) none none).run Tryz.prog W = .ok (.slice (some ⟨w.heap.size, m, none⟩) (65 - m) (65 - m)) W := fun W => by
        have hal : Tryz.prog.arrayLen 179 = 65 := by simp [Program.arrayLen, Tryz.underlying179]
        rw [run_sliceAt_array_l W 179 ⟨w.heap.size, 0, none⟩ (by simp [Program.arrayLen, Program.elem, Tryz.underlying179]) .i64 (m : Int) (by omega) (by rw [hal]; omega)]
        go_simp
        omega
      have hcv : ∀ c, (convert 66 9 (.slice (some ⟨w.heap.size, m, none⟩) (65 - m) c)).run Tryz.prog (W0.setCell ⟨w.heap.size, m, none⟩ (.int .u8 ((hxd x).toNat : Int))) = .ok (.string ⟨(hexDigits u0).toArray⟩) (W0.setCell ⟨w.heap.size, m, none⟩ (.int .u8 ((hxd x).toNat : Int))) := fun c => by
        have h := run_convert_bytes_back (P := Tryz.prog) (W0.setCell ⟨w.heap.size, m, none⟩ (.int .u8 ((hxd x).toNat : Int))) 66 9 5 ⟨w.heap.size, m, none⟩ c (hxd x :: D) Tryz.underlying66 Tryz.underlying5 Tryz.underlying9 (fun j hj => by
          rw [Lib.add_plain, HB2.out.cell]
          exact HT'.out.2.2 j hj)
        have e1 : (hxd x :: D).length = 65 - m := by have := HT'.out.2.1; omega
        have e2 : hexDigits u0 = hxd x :: D := by rw [HI.out.text, hexDigits_small hlt]; rfl
        rw [e1] at h
        rw [e2]
        exact h
      go_wp2
      go_ret2
      exact ⟨rfl, hb.setCell (by simp) _⟩
    · have hrm : 50 ≤ k := by have := HI.out.len; have := HI.out.few; omega
      obtain ⟨m, rfl⟩ : ∃ m, k = m + 1 := ⟨k - 1, by omega⟩
      have hA : bits BinOp.and IntKind.u64 (x : Int) 15 = (x : Int) % 16 := and15 x (by omega)
      have hX : ∀ w, (Instr.index 9 (.string Lib.digits36) (.int .u64 ((x : Int) % 16))).run Tryz.prog w = .ok (.int .u8 ((hxd (x % 16)).toNat : Int)) w := idx_digits 9 Tryz.underlying9 .u64 _ _ (by omega) (by omega)
      have hB' := HB.out
      have hc : W0.cell? ⟨w.heap.size, m, none⟩ = some (cs[m]'(by have := HT.out.1; omega)) := by rw [hB'.cell, Array.getElem?_eq_getElem]
      have hf := hB'.frozen m
      clear hB'
      go_wp2
      go_roundw
      case rel => exact ⟨x / 16, m, cs.setIfInBounds m (.int .u8 ((hxd (x % 16)).toNat : Int)), hxd (x % 16) :: D, by go_num, rfl, by omega, HI.out.step hu64 hlt, HT.out.step _, HB.out.set_ m _, hb.setCell (by simp) _⟩
      case measure => simp [RowKit.intOf]; omega
theorem Itoa_any (n : Nat) (hn : n ≤ 1000000000) (w : World) (htab : Tabs w) :
    Calls Tryz.prog 33 #[.int .i64 (n : Int)] w fun e w' => e = .returned (.string ⟨(Lib.decDigits n).toArray⟩) ∧ Below w.heap.size w w' := by
  have e0 : Lib.itoa (n : Int) = Lib.decDigits n := by unfold Lib.itoa; rw [if_neg (by omega), Int.toNat_natCast]
  rw [← e0]
  refine (Tryz.strconv_Itoa (n : Int) (by omega) (by omega) w htab.pow).mono ?_
  rintro e w' ⟨he, k, os, rfl⟩
  exact ⟨he, Lib.below_grow _ _ (Nat.le_refl _) k os⟩
end Go.Proofs.YthhlnpfcpgfcfaaGreatDoor
