/-
  strconv.FormatInt at base 16, strconv.Itoa: the numerals. written of the reference: the numerals at the bases 10 and 16. Chunked bodies in plain words: a decoder, what a byte does, what feeding does. No program in sight. Chunked bodies in plain words: what is encoded is decoded.
-/
import Derived.Test.YtencphfhpnljlaaGreatDoorRows
import Derived.Test.YtencphfhpnljlaaGreatDoorShelfN
import Derived.Test.YtencphfhpnljlaaGreatDoorWa
import Derived.WalkKit
import Derived.WalkSpells
import Derived.WalkLawsBesides
import Derived.Lib.Hide
import Derived.Lib.ItoaMem
import Derived.Lib.AppendIntMem
import Derived.BigCall
import Derived.BigGuard
import Derived.Laws.Bits64b
import Derived.Laws.BitsAllLaws
import Derived.Lib.ItoaWalk
import Derived.Test.YtencphfhpnljlaaGreatDoorWb1
import Derived.Deep.QuietTactic
import Derived.BigQuiet
namespace Go.Proofs.YtencphfhpnljlaaGreatDoor

section
open Go.RowKit Go.Sort Go.Lib

/-- what the contracts ask of the listed tables, in a world and in all that follow it -/
structure Tabs (w : World) : Prop where
  pow : Lib.TabIs Tryz.prog w "internal/strconv.uint64pow10" .u64 Lib.pow10Tab
  tz : TabAt 7 Lib.deBruijn64tab w
theorem Tabs.below {w w' : World} (h : Tabs w) (hb : Below w.heap.size w w') : Tabs w' := by
  refine ⟨Lib.tabBelow_of_tabIs h.pow w' hb, fun j hj => ?_⟩
  have h0 := h.tz j hj
  have hlt : (7 : Nat) < w.heap.size := by
    rcases Nat.lt_or_ge 7 w.heap.size with h' | h'
    · exact h'
    · unfold World.cell? at h0; simp [Array.getElem?_eq_none h'] at h0
  exact (hb.cell (p := ⟨7, j, none⟩) hlt).trans h0
theorem Tabs.alloc {w : World} (h : Tabs w) (o : Obj) : Tabs (w.alloc o) := h.below ((Below.refl _ _).alloc (Nat.le_refl _) o)

/-- a hexadecimal digit, small letters -/
def hxd (d : Nat) : UInt8 := if d < 10 then UInt8.ofNat (48 + d) else UInt8.ofNat (87 + d)
/-- the hexadecimal numeral -/
def hexDigits (u : Nat) : List UInt8 := if _h : u < 16 then [hxd u] else hexDigits (u / 16) ++ [hxd (u % 16)]
termination_by u
decreasing_by omega
theorem hexDigits_small {u : Nat} (h : u < 16) : hexDigits u = [hxd u] := by rw [hexDigits, dif_pos h]
theorem hexDigits_big {u : Nat} (h : ¬ u < 16) : hexDigits u = hexDigits (u / 16) ++ [hxd (u % 16)] := by rw [hexDigits, dif_neg h]

theorem digits36_at : ∀ p : Fin 16, Lib.digits36.data.toList.getD p.val 0 = hxd p.val := by decide +kernel
theorem idx_digits {P : Program} (t : TypeId) (ht : P.underlying t = some .string) (k : IntKind) (z : Int) (i : Nat) (hz : z = (i : Int)) (hi : i < 16) (w : World) :
    (Instr.index t (.string Lib.digits36) (.int k z)).run P w = .ok (.int .u8 ((hxd i).toNat : Int)) w := by
  subst hz
  rw [run_index_string w t Lib.digits36 k _ ht, dif_pos ⟨by omega, by rw [Lib.digits36_size]; omega⟩]
  have e : ((i : Int)).toNat = i := by omega
  simp only [e]
  have h1 := digits36_at ⟨i, hi⟩
  rw [List.getD_eq_getElem?_getD, List.getElem?_eq_getElem (by show i < Lib.digits36.data.toList.length; rw [show Lib.digits36.data.toList.length = Lib.digits36.size from by simp, Lib.digits36_size]; omega)] at h1
  simp only [Option.getD_some] at h1
  rw [← h1]
  rfl

set_option maxHeartbeats 400000 in
theorem isPow16 (w : World) : Calls Tryz.prog 139 #[.int .i64 16] w fun e w' => e = .returned (.bool true) ∧ w = w' := by
  go_enter Tryz.func139, Tryz.ntmps139
  go_wp2
  go_ret
  exact ⟨rfl, rfl⟩
theorem tz16 (w : World) (h : Tabs w) : Calls Tryz.prog 140 #[.int .u64 16] w fun e w' => e = .returned (.int .i64 4) ∧ w = w' :=
  (Any7.bits_TrailingZeros Tryz.lays27 16 (by omega) w (fun _ => h.tz)).mono fun e w' ⟨he, hw⟩ => ⟨he.trans (ret_int (by decide +kernel)), hw.symm⟩

/-- what the stores of formatBits have laid so far: the array's cells from k on are the digits D -/
def Tail (cs : Array Value) (k : Nat) (D : List UInt8) : Prop := cs.size = 65 ∧ k + D.length = 65 ∧ ∀ j, (h : j < D.length) → cs[k + j]? = some (.int .u8 (D[j].toNat : Int))
theorem Tail.step {cs : Array Value} {k : Nat} {D : List UInt8} (h : Tail cs (k + 1) D) (b : UInt8) : Tail (cs.setIfInBounds k (.int .u8 (b.toNat : Int))) k (b :: D) := by
  refine ⟨by simp [h.1], by have := h.2.1; simp; omega, fun j hj => ?_⟩
  have h1 := h.1
  have h2 := h.2.1
  cases j with
  | zero => simp [Array.getElem?_setIfInBounds, h1]; omega
  | succ j =>
    have := h.2.2 j (by simpa using hj)
    rw [Array.getElem?_setIfInBounds, if_neg (by omega), show k + (j + 1) = k + 1 + j by omega, this]
    rfl
theorem and15 (x : Nat) (hx : x < 18446744073709551616) : bits BinOp.and IntKind.u64 (x : Int) 15 = (x : Int) % 16 := by
  have h := bits_and_u64_nat x 15 hx (by omega)
  have h2 : x &&& 15 = x % 16 := Nat.and_two_pow_sub_one_eq_mod x 4
  rw [h2] at h
  exact h.trans (by omega)
structure HexInv (u0 x k : Nat) (D : List UInt8) : Prop where
  text : hexDigits u0 = hexDigits x ++ D
  pow : x * 16 ^ D.length ≤ u0
  len : k + D.length = 65
  few : D.length ≤ 15
theorem HexInv.le {u0 x k : Nat} {D : List UInt8} (h : HexInv u0 x k D) : x ≤ u0 := by
  have h1 := h.pow
  have h2 : x * 1 ≤ x * 16 ^ D.length := Nat.mul_le_mul_left _ (Nat.pow_pos (by decide))
  omega
theorem HexInv.step {u0 x k : Nat} {D : List UInt8} (h : HexInv u0 x (k + 1) D) (hu : u0 < 18446744073709551616) (h16 : ¬ x < 16) : HexInv u0 (x / 16) k (hxd (x % 16) :: D) := by
  refine ⟨?_, ?_, by have := h.len; simp; omega, ?_⟩
  · rw [h.text, hexDigits_big h16]; simp
  · have h1 := h.pow
    simp only [List.length_cons, Nat.pow_succ]
    have h2 : x / 16 * (16 ^ D.length * 16) = (x / 16 * 16) * 16 ^ D.length := by rw [Nat.mul_comm (16 ^ D.length) 16, ← Nat.mul_assoc]
    have h3 : (x / 16 * 16) * 16 ^ D.length ≤ x * 16 ^ D.length := Nat.mul_le_mul_right _ (by omega)
    omega
  · have h1 := h.pow
    have hf := h.few
    by_cases h3 : D.length ≤ 14
    · simp; omega
    · exfalso
      have h4 : D.length = 15 := by omega
      rw [h4] at h1
      have h6 : (16 : Nat) ^ 15 = 1152921504606846976 := by decide
      omega

set_option maxHeartbeats 2000000 in
set_option maxRecDepth 100000 in
theorem formatBits16 (u0 : Nat) (hu64 : u0 < 18446744073709551616) (w : World) (htab : Tabs w) :
    Calls Tryz.prog 106 #[.slice none 0 0, .int .u64 u0, .int .i64 16, .bool false, .bool false] w fun e w' => e = .returned (.tuple #[.slice none 0 0, .string ⟨(hexDigits u0).toArray⟩]) ∧ Below w.heap.size w w' := by
  go_enter Tryz.func106, Tryz.ntmps106
  go_name_bytes TX hTX
  go_name_bytes SM hSM
  have eSM : SM = Lib.digits36 := by rw [← hSM]; decide +kernel
  subst eSM
  clear hSM hTX
  go_wp2_with (first
    | (go_at_call 139; refine (isPow16 _).mono ?_; rintro e w' ⟨rfl, rfl⟩)
    | (go_at_call 140; refine (tz16 _ (htab.alloc _)).mono ?_; rintro e w' ⟨rfl, rfl⟩))
  go_loopw [1, 13] (fun u i wr => ∃ (x k : Nat) (cs : Array Value) (D : List UInt8), u = .int .u64 x ∧ i = .int .i64 k ∧ k ≤ 65 ∧ Hid (HexInv u0 x k D) ∧ Hid (Tail cs k D) ∧ Hid (Blk wr w.heap.size 204 cs) ∧ Below w.heap.size w wr) (fun u _ _ => (RowKit.intOf u).toNat)
  case atStart =>
    refine ⟨u0, 65, Tryz.zeroCells204, [], rfl, rfl, Nat.le_refl _, ?_, ?_, ?_, (Below.refl _ _).alloc (Nat.le_refl _) _⟩
    · exact (⟨by simp, by simp, by simp, by simp⟩ : HexInv u0 u0 65 [])
    · exact (⟨by decide +kernel, by simp, fun j hj => by simp at hj⟩ : Tail Tryz.zeroCells204 65 [])
    · exact Blk.new w _ _
  case round =>
    obtain ⟨x, k, cs, D, rfl, rfl, hk, HI, HT, HB, hb⟩ := hrel
    rename World => W0
    have hle := HI.out.le
    by_cases hlt : x < 16
    · have hk1 : 1 ≤ k := by have := HI.out.len; have := HI.out.few; omega
      obtain ⟨m, rfl⟩ : ∃ m, k = m + 1 := ⟨k - 1, by omega⟩
      have hX : ∀ w, (Instr.index 9 (.string Lib.digits36) (.int .u64 (x : Int))).run Tryz.prog w = .ok (.int .u8 ((hxd x).toNat : Int)) w := idx_digits 9 Tryz.underlying9 .u64 _ _ rfl hlt
      have hB' := HB.out
      have hc : W0.cell? ⟨w.heap.size, m, none⟩ = some (cs[m]'(by have := HT.out.1; omega)) := by rw [hB'.cell, Array.getElem?_eq_getElem]
      have hf := hB'.frozen m
      clear hB'
      have HT' := Lib.hid (HT.out.step (hxd x))
      have HB2 := Lib.hid (HB.out.set_ m (.int .u8 ((hxd x).toNat : Int)))
      have hsl : ∀ W, (Instr.sliceAt 204 (.pointer (some ⟨w.heap.size, 0, none⟩)) (some (.int .i64 (m : Int))) none none).run Tryz.prog W = .ok (.slice (some ⟨w.heap.size, m, none⟩) (65 - m) (65 - m)) W := fun W => by
        have hal : Tryz.prog.arrayLen 204 = 65 := by simp [Program.arrayLen, Tryz.underlying204]
        rw [run_sliceAt_array_l W 204 ⟨w.heap.size, 0, none⟩ (by simp [Program.arrayLen, Program.elem, Tryz.underlying204]) .i64 (m : Int) (by omega) (by rw [hal]; omega)]
        go_simp
        omega
      have hcv : ∀ c, (convert 50 9 (.slice (some ⟨w.heap.size, m, none⟩) (65 - m) c)).run Tryz.prog (W0.setCell ⟨w.heap.size, m, none⟩ (.int .u8 ((hxd x).toNat : Int))) = .ok (.string ⟨(hexDigits u0).toArray⟩) (W0.setCell ⟨w.heap.size, m, none⟩ (.int .u8 ((hxd x).toNat : Int))) := fun c => by
        have h := run_convert_bytes_back (P := Tryz.prog) (W0.setCell ⟨w.heap.size, m, none⟩ (.int .u8 ((hxd x).toNat : Int))) 50 9 5 ⟨w.heap.size, m, none⟩ c (hxd x :: D) Tryz.underlying50 Tryz.underlying5 Tryz.underlying9 (fun j hj => by
          rw [Lib.add_plain, HB2.out.cell]
          exact HT'.out.2.2 j hj)
        have e1 : (hxd x :: D).length = 65 - m := by have := HT'.out.2.1; omega
        have e2 : hexDigits u0 = hxd x :: D := by rw [HI.out.text, hexDigits_small hlt]; rfl
        rw [e1] at h
        rw [e2]
        exact h
      go_wp2
      go_ret2
      exact ⟨rfl, hb.setCell (by simp) _⟩
    · have hrm : 50 ≤ k := by have := HI.out.len; have := HI.out.few; omega
      obtain ⟨m, rfl⟩ : ∃ m, k = m + 1 := ⟨k - 1, by omega⟩
      have hA : bits BinOp.and IntKind.u64 (x : Int) 15 = (x : Int) % 16 := and15 x (by omega)
      have hX : ∀ w, (Instr.index 9 (.string Lib.digits36) (.int .u64 ((x : Int) % 16))).run Tryz.prog w = .ok (.int .u8 ((hxd (x % 16)).toNat : Int)) w := idx_digits 9 Tryz.underlying9 .u64 _ _ (by omega) (by omega)
      have hB' := HB.out
      have hc : W0.cell? ⟨w.heap.size, m, none⟩ = some (cs[m]'(by have := HT.out.1; omega)) := by rw [hB'.cell, Array.getElem?_eq_getElem]
      have hf := hB'.frozen m
      clear hB'
      go_wp2
      go_roundw
      case rel => exact ⟨x / 16, m, cs.setIfInBounds m (.int .u8 ((hxd (x % 16)).toNat : Int)), hxd (x % 16) :: D, by go_num, rfl, by omega, HI.out.step hu64 hlt, HT.out.step _, HB.out.set_ m _, hb.setCell (by simp) _⟩
      case measure => simp [RowKit.intOf]; omega
set_option maxHeartbeats 1000000 in
set_option maxRecDepth 100000 in
theorem FormatInt16 (u : Nat) (hu : u ≤ 1000000) (w : World) (htab : Tabs w) :
    Calls Tryz.prog 45 #[.int .i64 (u : Int), .int .i64 16] w fun e w' => e = .returned (.string ⟨(hexDigits u).toArray⟩) ∧ Below w.heap.size w w' := by
  have CI : Hid (∀ w, Tabs w → Calls Tryz.prog 69 #[.int .i64 (u : Int), .int .i64 16] w fun e w' => e = .returned (.string ⟨(hexDigits u).toArray⟩) ∧ Below w.heap.size w w') := by
    intro w htab
    have CB := Lib.hid (formatBits16 u (by omega) w htab)
    have d1 : decide ((u : Int) < 0) = false := by simp
    have hw : IntKind.u64.wrap (u : Int) = (u : Int) := by rw [IntKind.wrap_u64]; omega
    go_enter Tryz.func69, Tryz.ntmps69
    go_wp2_with fail
    (with_reducible refine (CB.out).mono ?_); rintro e w1 ⟨rfl, hb1⟩
    go_wp2_with fail
    go_ret
    exact ⟨rfl, hb1⟩
  have HT := Lib.hid htab
  go_enter Tryz.func45, Tryz.ntmps45
  go_wp2_with fail
  (with_reducible refine (CI.out _ HT.out).mono ?_); rintro e w1 ⟨rfl, hb1⟩
  go_wp2_with fail
  go_ret
  exact ⟨rfl, hb1⟩
theorem Itoa_any (n : Nat) (hn : n ≤ 1000000000) (w : World) (htab : Tabs w) :
    Calls Tryz.prog 180 #[.int .i64 (n : Int)] w fun e w' => e = .returned (.string ⟨(Lib.decDigits n).toArray⟩) ∧ Below w.heap.size w w' := by
  have e0 : Lib.itoa (n : Int) = Lib.decDigits n := by unfold Lib.itoa; rw [if_neg (by omega), Int.toNat_natCast]
  rw [← e0]
  refine (Tryz.strconv_Itoa (n : Int) (by omega) (by omega) w htab.pow).mono ?_
  rintro e w' ⟨he, k, os, rfl⟩
  exact ⟨he, Lib.below_grow _ _ (Nat.le_refl _) k os⟩
end

section
open Go.RowKit

def digits16 : ByteArray := ⟨#[48, 49, 50, 51, 52, 53, 54, 55, 56, 57, 97, 98, 99, 100, 101, 102]⟩
theorem digits16_at : ∀ p : Fin 16, digits16.extract p.val (p.val + 1) = ⟨#[hxd p.val]⟩ := by decide +kernel
theorem ext16 (d : Nat) (h : d < 16) : (⟨#[48, 49, 50, 51, 52, 53, 54, 55, 56, 57, 97, 98, 99, 100, 101, 102]⟩ : ByteArray).extract d (d + 1) = bs [hxd d] := digits16_at ⟨d, h⟩
theorem dec_small {n : Nat} (h : n < 10) : Lib.decDigits n = [hxd n] := by rw [Lib.decDigits_one h]; unfold hxd; rw [if_pos h]
theorem dec_big {n : Nat} (h : ¬ n < 10) : Lib.decDigits n = Lib.decDigits (n / 10) ++ [hxd (n % 10)] := by rw [Lib.decDigits, dif_neg h]; unfold hxd; rw [if_pos (by omega)]
def strL : Value → Nat | .string u => u.size | _ => 0
/-- the state of the loop: the rest of the number, the digits laid -/
def WI (dgs : Nat → List UInt8) (n x : Nat) (D : List UInt8) : Prop := (D = [] ∧ x = n) ∨ (D ≠ [] ∧ dgs n = (if x = 0 then [] else dgs x) ++ D)
theorem WI_step {dgs : Nat → List UInt8} {b : Nat} (hb : 2 ≤ b) (h1 : ∀ n, n < b → dgs n = [hxd n]) (h2 : ∀ n, ¬ n < b → dgs n = dgs (n / b) ++ [hxd (n % b)]) {n x : Nat} {D : List UInt8} (h : WI dgs n x D) (hx : x ≠ 0 ∨ D = []) : WI dgs n (x / b) (hxd (x % b) :: D) := by
  have key : dgs x = (if x / b = 0 then [] else dgs (x / b)) ++ [hxd (x % b)] := by
    by_cases hl : x < b
    · rw [Nat.div_eq_of_lt hl, if_pos rfl, Nat.mod_eq_of_lt hl, h1 x hl]; rfl
    · have hd : x / b ≠ 0 := by
        have := Nat.div_pos (Nat.le_of_not_lt hl) (by omega)
        omega
      rw [if_neg hd, ← h2 x hl]
  refine .inr ⟨by simp, ?_⟩
  rcases h with ⟨rfl, rfl⟩ | ⟨hD, e⟩
  · rw [key]
  · have hx0 : x ≠ 0 := by
      rcases hx with h | h
      · exact h
      · exact absurd h hD
    rw [e, if_neg hx0, key]
    simp
theorem hex_len (k : Nat) : ∀ n, n < 16 ^ (k + 1) → (hexDigits n).length ≤ k + 1 := by
  induction k with
  | zero => intro n h; rw [hexDigits_small (by simpa using h)]; simp
  | succ k ih =>
    intro n h
    by_cases hs : n < 16
    · rw [hexDigits_small hs]; simp
    · rw [hexDigits_big hs, List.length_append]
      have := ih (n / 16) (by rw [Nat.pow_succ] at h; exact Nat.div_lt_of_lt_mul (by rw [Nat.mul_comm]; exact h))
      simp; omega
theorem dec_len (k : Nat) : ∀ n, n < 10 ^ (k + 1) → (Lib.decDigits n).length ≤ k + 1 := by
  induction k with
  | zero => intro n h; rw [dec_small (by simpa using h)]; simp
  | succ k ih =>
    intro n h
    by_cases hs : n < 10
    · rw [dec_small hs]; simp
    · rw [dec_big hs, List.length_append]
      have := ih (n / 10) (by rw [Nat.pow_succ] at h; exact Nat.div_lt_of_lt_mul (by rw [Nat.mul_comm]; exact h))
      simp; omega

set_option maxRecDepth 100000 in
set_option maxHeartbeats 8000000 in
theorem rWritten10 (n : Nat) (hn : n ≤ 1000000) (w : World) :
    Calls Tryz.prog 58 #[.int .i64 (n : Int), .int .i64 10] w fun e w' => e = .returned (.string (bs (Lib.decDigits n))) ∧ ∃ m, w' = w.drewN m := by
  obtain ⟨S, hS⟩ : ∃ S, bs (Lib.decDigits n) = S := ⟨_, rfl⟩
  have hln := dec_len 6 n (by omega)
  rw [hS]
  have HS := Lib.hid hS
  clear hS
  go_enter Tryz.func58, Tryz.ntmps58
  go_wp2_with fail
  go_loopw [0, 5] (fun nv o wr => ∃ (x m : Nat) (D : List UInt8) (u : ByteArray), nv = .int .i64 (x : Int) ∧ o = .string u ∧ x ≤ n ∧ Hid (u = bs D ∧ WI Lib.decDigits n x D) ∧ wr = w.drewN m) (fun nv o _ => (intOf nv).toNat * 2 + (1 - strL o))
  case atStart => exact ⟨n, 0, [], ⟨#[]⟩, rfl, rfl, Nat.le_refl _, hide ⟨rfl, .inl ⟨rfl, rfl⟩⟩, rfl⟩
  case round =>
    obtain ⟨x, m, D, u, rfl, rfl, hx, HW, rfl⟩ := hrel
    have hDl : D.length ≤ 100 := by
      rcases HW.out.2 with ⟨rfl, _⟩ | ⟨_, e⟩
      · simp
      · rw [e] at hln; simp at hln; omega
    by_cases hx0 : x = 0
    · have dx : decide ((0 : Int) < (x : Int)) = false := by rw [decide_eq_false_iff_not]; omega
      by_cases hD : D = []
      · have hem : u.toList.isEmpty = true := emp_t (by rw [HW.out.1, bs_size, hD]; rfl)
        have hsz : u.size = 0 := by rw [HW.out.1, bs_size, hD]; rfl
        have HN := Lib.hid (WI_step (by omega) (fun n h => dec_small h) (fun n h => dec_big h) HW.out.2 (.inr hD))
        have hext := ext16 0 (by omega)
        have hbs : (bs [hxd 0]).size = 1 := by rw [bs_size]; rfl
        rw [hx0, hD] at HN
        have HU : Hid (bs [hxd 0] ++ u = bs [hxd 0]) := by
          show _ = _
          rw [HW.out.1, hD]
          exact ba_ext (by rw [append_toList, bs_list, bs_list]; rfl)
        clear hD hln
        go_wp2_with fail
        go_quiet (fail)
        go_wp2_with fail
        refine ⟨⟨0, _, [hxd 0], _, rfl, rfl, by omega, hide ⟨?_, HN.out⟩, rfl⟩, ?_⟩
        · first | exact HU.out | (rw [hext]; exact HU.out)
        · have e1 : (bs [hxd 0] ++ u).size = 1 := by rw [HU.out, bs_size]; rfl
          have e2 : ∀ v : ByteArray, v = bs [hxd 0] ++ u → strL (.string v) = 1 := fun v e => by rw [e]; exact e1
          rw [e2 _ (by first | rfl | rw [hext])]
          have e3 : strL (.string u) = 0 := hsz
          rw [e3]
          simp [intOf]
      · have hem : u.toList.isEmpty = false := emp_f (by rw [HW.out.1, bs_size]; exact fun h => hD (List.eq_nil_of_length_eq_zero h))
        have hres : u = S := by
          rw [HW.out.1, ← HS.out]
          rcases HW.out.2 with ⟨h, _⟩ | ⟨_, e⟩
          · exact absurd h hD
          · rw [e, if_pos hx0]; rfl
        subst hres
        clear hD
        go_wp2_with fail
        go_ret
        exact ⟨rfl, _, rfl⟩
    · have dx : decide ((0 : Int) < (x : Int)) = true := by rw [decide_eq_true_iff]; omega
      have HN := Lib.hid (WI_step (by omega) (fun n h => dec_small h) (fun n h => dec_big h) HW.out.2 (.inl hx0))
      have hxb : x / 10 ≤ x := Nat.div_le_self _ _
      have hr16 : x % 10 < 10 := Nat.mod_lt _ (by omega)
      have hdx : x ≠ 0 → x / 10 < x := fun h => Nat.div_lt_self (by omega) (by omega)
      have t1 : Int.tmod (x : Int) 10 = ((x % 10 : Nat) : Int) := by rw [Int.tmod_eq_emod_of_nonneg (by omega)]; rfl
      have t2 : Int.tdiv (x : Int) 10 = ((x / 10 : Nat) : Int) := by rw [Int.tdiv_eq_ediv_of_nonneg (by omega)]; rfl
      obtain ⟨r, hr⟩ : ∃ r, x % 10 = r := ⟨_, rfl⟩
      obtain ⟨q, hq⟩ : ∃ q, x / 10 = q := ⟨_, rfl⟩
      rw [hr] at t1 hr16 HN
      rw [hq] at t2 HN hxb hdx
      have t3 : IntKind.i64.wrap (r : Int) = (r : Int) := by rw [IntKind.wrap_i64]; omega
      have t4 : IntKind.i64.wrap (q : Int) = (q : Int) := by rw [IntKind.wrap_i64]; omega
      have t5 : IntKind.i64.wrap ((r : Int) + 1) = (r : Int) + 1 := by rw [IntKind.wrap_i64]; omega
      have t6 : (0 : Int) ≤ (r : Int) := by omega
      have t7 : (r : Int) + 1 ≤ 16 := by omega
      have t8 : (0 : Int) ≤ (r : Int) + 1 := by omega
      have t9 : (r : Int) ≤ (r : Int) + 1 := by omega
      have hext := ext16 r (by omega)
      have hus : u.size ≤ 1000000 := by rw [HW.out.1, bs_size]; omega
      have hbs : (bs [hxd r]).size = 1 := by rw [bs_size]; rfl
      have HU : Hid (bs [hxd r] ++ u = bs (hxd r :: D)) := by
        show _ = _
        rw [HW.out.1]
        exact ba_ext (by rw [append_toList, bs_list, bs_list, bs_list]; rfl)
      clear hr hq
      clear hln
      go_wp2_with fail
      go_quiet (fail)
      go_wp2_with fail
      refine ⟨⟨q, _, hxd r :: D, _, rfl, rfl, by omega, hide ⟨?_, HN.out⟩, rfl⟩, ?_⟩
      · first | exact HU.out | (rw [hext]; exact HU.out)
      · have e1 : (bs [hxd r] ++ u).size = D.length + 1 := by rw [HU.out, bs_size]; rfl
        have e2 : ∀ v : ByteArray, v = bs [hxd r] ++ u → strL (.string v) = D.length + 1 := fun v e => by rw [e]; exact e1
        rw [e2 _ (by first | rfl | rw [hext])]
        have e3 : (intOf (Value.int .i64 (q : Int))).toNat = q := by simp [intOf]
        have e4 : (intOf (Value.int .i64 (x : Int))).toNat = x := by simp [intOf]
        rw [e3, e4]
        have := hdx hx0
        omega

set_option maxRecDepth 100000 in
set_option maxHeartbeats 8000000 in
theorem rWritten16 (n : Nat) (hn : n ≤ 1000000) (w : World) :
    Calls Tryz.prog 58 #[.int .i64 (n : Int), .int .i64 16] w fun e w' => e = .returned (.string (bs (hexDigits n))) ∧ ∃ m, w' = w.drewN m := by
  obtain ⟨S, hS⟩ : ∃ S, bs (hexDigits n) = S := ⟨_, rfl⟩
  have hln := hex_len 4 n (by omega)
  rw [hS]
  have HS := Lib.hid hS
  clear hS
  go_enter Tryz.func58, Tryz.ntmps58
  go_wp2_with fail
  go_loopw [0, 5] (fun nv o wr => ∃ (x m : Nat) (D : List UInt8) (u : ByteArray), nv = .int .i64 (x : Int) ∧ o = .string u ∧ x ≤ n ∧ Hid (u = bs D ∧ WI hexDigits n x D) ∧ wr = w.drewN m) (fun nv o _ => (intOf nv).toNat * 2 + (1 - strL o))
  case atStart => exact ⟨n, 0, [], ⟨#[]⟩, rfl, rfl, Nat.le_refl _, hide ⟨rfl, .inl ⟨rfl, rfl⟩⟩, rfl⟩
  case round =>
    obtain ⟨x, m, D, u, rfl, rfl, hx, HW, rfl⟩ := hrel
    have hDl : D.length ≤ 100 := by
      rcases HW.out.2 with ⟨rfl, _⟩ | ⟨_, e⟩
      · simp
      · rw [e] at hln; simp at hln; omega
    by_cases hx0 : x = 0
    · have dx : decide ((0 : Int) < (x : Int)) = false := by rw [decide_eq_false_iff_not]; omega
      by_cases hD : D = []
      · have hem : u.toList.isEmpty = true := emp_t (by rw [HW.out.1, bs_size, hD]; rfl)
        have hsz : u.size = 0 := by rw [HW.out.1, bs_size, hD]; rfl
        have HN := Lib.hid (WI_step (by omega) (fun n h => hexDigits_small h) (fun n h => hexDigits_big h) HW.out.2 (.inr hD))
        have hext := ext16 0 (by omega)
        have hbs : (bs [hxd 0]).size = 1 := by rw [bs_size]; rfl
        rw [hx0, hD] at HN
        have HU : Hid (bs [hxd 0] ++ u = bs [hxd 0]) := by
          show _ = _
          rw [HW.out.1, hD]
          exact ba_ext (by rw [append_toList, bs_list, bs_list]; rfl)
        clear hD hln
        go_wp2_with fail
        go_quiet (fail)
        go_wp2_with fail
        refine ⟨⟨0, _, [hxd 0], _, rfl, rfl, by omega, hide ⟨?_, HN.out⟩, rfl⟩, ?_⟩
        · first | exact HU.out | (rw [hext]; exact HU.out)
        · have e1 : (bs [hxd 0] ++ u).size = 1 := by rw [HU.out, bs_size]; rfl
          have e2 : ∀ v : ByteArray, v = bs [hxd 0] ++ u → strL (.string v) = 1 := fun v e => by rw [e]; exact e1
          rw [e2 _ (by first | rfl | rw [hext])]
          have e3 : strL (.string u) = 0 := hsz
          rw [e3]
          simp [intOf]
      · have hem : u.toList.isEmpty = false := emp_f (by rw [HW.out.1, bs_size]; exact fun h => hD (List.eq_nil_of_length_eq_zero h))
        have hres : u = S := by
          rw [HW.out.1, ← HS.out]
          rcases HW.out.2 with ⟨h, _⟩ | ⟨_, e⟩
          · exact absurd h hD
          · rw [e, if_pos hx0]; rfl
        subst hres
        clear hD
        go_wp2_with fail
        go_ret
        exact ⟨rfl, _, rfl⟩
    · have dx : decide ((0 : Int) < (x : Int)) = true := by rw [decide_eq_true_iff]; omega
      have HN := Lib.hid (WI_step (by omega) (fun n h => hexDigits_small h) (fun n h => hexDigits_big h) HW.out.2 (.inl hx0))
      have hxb : x / 16 ≤ x := Nat.div_le_self _ _
      have hr16 : x % 16 < 16 := Nat.mod_lt _ (by omega)
      have hdx : x ≠ 0 → x / 16 < x := fun h => Nat.div_lt_self (by omega) (by omega)
      have t1 : Int.tmod (x : Int) 16 = ((x % 16 : Nat) : Int) := by rw [Int.tmod_eq_emod_of_nonneg (by omega)]; rfl
      have t2 : Int.tdiv (x : Int) 16 = ((x / 16 : Nat) : Int) := by rw [Int.tdiv_eq_ediv_of_nonneg (by omega)]; rfl
      obtain ⟨r, hr⟩ : ∃ r, x % 16 = r := ⟨_, rfl⟩
      obtain ⟨q, hq⟩ : ∃ q, x / 16 = q := ⟨_, rfl⟩
      rw [hr] at t1 hr16 HN
      rw [hq] at t2 HN hxb hdx
      have t3 : IntKind.i64.wrap (r : Int) = (r : Int) := by rw [IntKind.wrap_i64]; omega
      have t4 : IntKind.i64.wrap (q : Int) = (q : Int) := by rw [IntKind.wrap_i64]; omega
      have t5 : IntKind.i64.wrap ((r : Int) + 1) = (r : Int) + 1 := by rw [IntKind.wrap_i64]; omega
      have t6 : (0 : Int) ≤ (r : Int) := by omega
      have t7 : (r : Int) + 1 ≤ 16 := by omega
      have t8 : (0 : Int) ≤ (r : Int) + 1 := by omega
      have t9 : (r : Int) ≤ (r : Int) + 1 := by omega
      have hext := ext16 r (by omega)
      have hus : u.size ≤ 1000000 := by rw [HW.out.1, bs_size]; omega
      have hbs : (bs [hxd r]).size = 1 := by rw [bs_size]; rfl
      have HU : Hid (bs [hxd r] ++ u = bs (hxd r :: D)) := by
        show _ = _
        rw [HW.out.1]
        exact ba_ext (by rw [append_toList, bs_list, bs_list, bs_list]; rfl)
      clear hr hq
      clear hln
      go_wp2_with fail
      go_quiet (fail)
      go_wp2_with fail
      refine ⟨⟨q, _, hxd r :: D, _, rfl, rfl, by omega, hide ⟨?_, HN.out⟩, rfl⟩, ?_⟩
      · first | exact HU.out | (rw [hext]; exact HU.out)
      · have e1 : (bs [hxd r] ++ u).size = D.length + 1 := by rw [HU.out, bs_size]; rfl
        have e2 : ∀ v : ByteArray, v = bs [hxd r] ++ u → strL (.string v) = D.length + 1 := fun v e => by rw [e]; exact e1
        rw [e2 _ (by first | rfl | rw [hext])]
        have e3 : (intOf (Value.int .i64 (q : Int))).toNat = q := by simp [intOf]
        have e4 : (intOf (Value.int .i64 (x : Int))).toNat = x := by simp [intOf]
        rw [e3, e4]
        have := hdx hx0
        omega
end

section
open Go.RowKit

/-- a decoder -/
structure Ck where
  st : Nat
  size : Nat
  digits : Nat
  left : Nat
  body : List UInt8
  line : List UInt8
  lines : Nat
  status : Nat
deriving DecidableEq
/-- the value of a hexadecimal digit -/
def hexV (b : UInt8) : Option Nat :=
  if 48 ≤ b.toNat ∧ b.toNat ≤ 57 then some (b.toNat - 48) else if 97 ≤ b.toNat ∧ b.toNat ≤ 102 then some (b.toNat - 87) else if 65 ≤ b.toNat ∧ b.toNat ≤ 70 then some (b.toNat - 55) else none
theorem hexV_lt {b : UInt8} {v : Nat} (h : hexV b = some v) : v < 16 := by
  unfold hexV at h
  split at h
  · injection h with h; omega
  · split at h
    · injection h with h; omega
    · split at h
      · injection h with h; omega
      · cases h
def newC : Ck := ⟨0, 0, 0, 0, [], [], 0, 0⟩
def badC (c : Ck) (s : Nat) : Ck := ⟨8, 0, 0, 0, c.body, [], 0, s⟩
/-- what a byte does to a decoder that is not at its end -/
def stepC (c : Ck) (b : UInt8) : Ck :=
  if c.st = 0 then
    match hexV b with
    | some v => if c.digits < 8 then ⟨0, 16 * c.size + v, c.digits + 1, c.left, c.body, c.line, c.lines, c.status⟩ else badC c 400
    | none => if b = 13 ∧ 0 < c.digits then ⟨1, c.size, c.digits, c.left, c.body, c.line, c.lines, c.status⟩ else badC c 400
  else if c.st = 1 then
    if b ≠ 10 then badC c 400 else if c.size = 0 then ⟨5, 0, 0, 0, c.body, [], 0, 0⟩ else if 2048 < c.body.length + c.size then badC c 413 else ⟨2, 0, 0, c.size, c.body, [], 0, 0⟩
  else if c.st = 2 then ⟨if c.left = 1 then 3 else 2, 0, 0, c.left - 1, c.body ++ [b], [], 0, 0⟩
  else if c.st = 3 then if b = 13 then ⟨4, 0, 0, 0, c.body, [], 0, 0⟩ else badC c 400
  else if c.st = 4 then if b = 10 then ⟨0, 0, 0, 0, c.body, [], 0, 0⟩ else badC c 400
  else if c.st = 5 then
    if b = 13 then ⟨6, 0, 0, 0, c.body, c.line, c.lines, 0⟩ else if b = 10 then badC c 400 else if (c.line = [] ∧ c.lines = 32) ∨ c.line.length = 512 then badC c 431 else ⟨5, 0, 0, 0, c.body, c.line ++ [b], c.lines, 0⟩
  else if c.st = 6 then
    if b ≠ 10 then badC c 400 else if c.line = [] then ⟨7, 0, 0, 0, c.body, [], c.lines, 0⟩ else if (colT c.line).2.2 ≠ 0 then badC c 400 else ⟨5, 0, 0, 0, c.body, [], c.lines + 1, 0⟩
  else c
def overC (c : Ck) : Bool := c.st == 7 || c.st == 8
/-- feeding: the decoder, and how many bytes were used -/
def feedC : Ck → List UInt8 → Ck × Nat
  | c, [] => (c, 0)
  | c, b :: r => if overC c then (c, 0) else ((feedC (stepC c b) r).1, (feedC (stepC c b) r).2 + 1)
def decodeT (s : List UInt8) : List UInt8 × Nat × Nat :=
  if (feedC newC s).1.st = 7 then ((feedC newC s).1.body, (feedC newC s).2, 200) else if (feedC newC s).1.st = 8 then ([], (feedC newC s).2, (feedC newC s).1.status) else ((feedC newC s).1.body, (feedC newC s).2, 0)
def restC (c : Ck) : Nat := 2048 - c.body.length - c.left
/-- the fields of a decoder go together -/
structure OkC (c : Ck) : Prop where
  st : c.st ≤ 8
  sized : c.st ≤ 1 ∨ (c.size = 0 ∧ c.digits = 0)
  size : c.size < 16 ^ c.digits
  digits : c.digits ≤ 8
  one : c.st = 1 → 0 < c.digits
  left : c.st = 2 ↔ 0 < c.left
  line : (c.st = 5 ∨ c.st = 6) ∨ c.line = []
  lines : (c.st = 5 ∨ c.st = 6 ∨ c.st = 7) ∨ c.lines = 0
  bad : c.st = 8 ↔ c.status ≠ 0
  status : c.status = 0 ∨ c.status = 400 ∨ c.status = 413 ∨ c.status = 431
  body : c.body.length + c.left ≤ 2048
  len : c.line.length ≤ 512
  max : c.lines ≤ 32
  more : c.line ≠ [] → c.lines < 32
  clean : ∀ b ∈ c.line, b ≠ 13 ∧ b ≠ 10
theorem okC_new : OkC newC := by
  constructor <;> simp [newC]
theorem okC_bad {c : Ck} (h : OkC c) (s : Nat) (hs : s = 400 ∨ s = 413 ∨ s = 431) : OkC (badC c s) := by
  have := h.body
  constructor <;> simp [badC] <;> omega
theorem okC_step {c : Ck} (h : OkC c) (b : UInt8) : OkC (stepC c b) := by
  have hb := h.body
  have hst := h.st
  unfold stepC
  by_cases h0 : c.st = 0
  · rw [if_pos h0]
    have hl : c.left = 0 := by have := h.left; omega
    have hn : c.line = [] := by rcases h.line with h | h; omega; exact h
    have hm : c.lines = 0 := by rcases h.lines with h | h; omega; exact h
    have hz : c.status = 0 := by have := h.bad; omega
    have hsz := h.size
    cases hv : hexV b with
    | some v =>
      have hv16 := hexV_lt hv
      simp only
      split
      · rename_i hd
        constructor <;> simp [hl, hn, hm, hz] <;> omega
      · exact okC_bad h _ (.inl rfl)
    | none =>
      simp only
      split
      · rename_i hd
        have := h.digits
        constructor <;> simp [hl, hn, hm, hz] <;> omega
      · exact okC_bad h _ (.inl rfl)
  rw [if_neg h0]
  by_cases h1 : c.st = 1
  · rw [if_pos h1]
    split
    · exact okC_bad h _ (.inl rfl)
    · split
      · constructor <;> simp <;> omega
      · split
        · exact okC_bad h _ (.inr (.inl rfl))
        · constructor <;> simp <;> omega
  rw [if_neg h1]
  by_cases h2 : c.st = 2
  · rw [if_pos h2]
    have hl := h.left
    by_cases hq : c.left = 1
    · rw [if_pos hq]
      constructor <;> simp <;> omega
    · rw [if_neg hq]
      constructor <;> simp <;> omega
  rw [if_neg h2]
  have hl : c.left = 0 := by have := h.left; omega
  by_cases h3 : c.st = 3
  · rw [if_pos h3]
    split
    · constructor <;> simp <;> omega
    · exact okC_bad h _ (.inl rfl)
  rw [if_neg h3]
  by_cases h4 : c.st = 4
  · rw [if_pos h4]
    split
    · constructor <;> simp <;> omega
    · exact okC_bad h _ (.inl rfl)
  rw [if_neg h4]
  have hmx := h.max
  have hlen := h.len
  by_cases h5 : c.st = 5
  · rw [if_pos h5]
    split
    · exact ⟨by simp, by simp, by simp, by simp, by simp, by simp, by simp, by simp, by simp, by simp, by simp; omega, hlen, hmx, h.more, h.clean⟩
    · split
      · exact okC_bad h _ (.inl rfl)
      · split
        · exact okC_bad h _ (.inr (.inr rfl))
        · rename_i n13 n10 hx
          have hx1 : ¬ (c.line = [] ∧ c.lines = 32) := fun e => hx (.inl e)
          have hx2 : ¬ c.line.length = 512 := fun e => hx (.inr e)
          refine ⟨by simp, by simp, by simp, by simp, by simp, by simp, by simp, by simp, by simp, by simp, by simp; omega, by simp; omega, hmx, fun _ => ?_, fun y hy => ?_⟩
          · by_cases he : c.line = []
            · have : ¬ c.lines = 32 := fun e => hx1 ⟨he, e⟩
              show c.lines < 32
              omega
            · exact h.more he
          · rcases List.mem_append.1 hy with hy | hy
            · exact h.clean y hy
            · rw [List.mem_singleton.1 hy]; exact ⟨n13, n10⟩
  rw [if_neg h5]
  by_cases h6 : c.st = 6
  · rw [if_pos h6]
    split
    · exact okC_bad h _ (.inl rfl)
    · split
      · constructor <;> simp <;> omega
      · split
        · exact okC_bad h _ (.inl rfl)
        · rename_i hne _
          have := h.more hne
          constructor <;> simp <;> omega
  rw [if_neg h6]
  exact h
theorem feed_ok (s : List UInt8) : ∀ {c : Ck}, OkC c → OkC (feedC c s).1 := by
  induction s with
  | nil => intro c h; exact h
  | cons b r ih =>
    intro c h
    unfold feedC
    split
    · exact h
    · exact ih (okC_step h b)
theorem feed_len (s : List UInt8) : ∀ c : Ck, (feedC c s).2 ≤ s.length := by
  induction s with
  | nil => intro c; exact Nat.le_refl _
  | cons b r ih =>
    intro c
    unfold feedC
    split
    · simp
    · have := ih (stepC c b); simp only [List.length_cons]; omega
theorem feed_over {c : Ck} (h : overC c = true) (s : List UInt8) : feedC c s = (c, 0) := by
  cases s with
  | nil => rfl
  | cons b r => unfold feedC; rw [if_pos h]
/-- feeding in parts is feeding at once -/
theorem feed_app (a b : List UInt8) : ∀ c : Ck, feedC c (a ++ b) = ((feedC (feedC c a).1 b).1, (feedC c a).2 + (feedC (feedC c a).1 b).2) := by
  induction a with
  | nil => intro c; simp [feedC]
  | cons x a ih =>
    intro c
    by_cases h : overC c = true
    · rw [feed_over h, feed_over h]
      simp [feed_over h]
    · show feedC c (x :: (a ++ b)) = _
      have e1 : feedC c (x :: (a ++ b)) = ((feedC (stepC c x) (a ++ b)).1, (feedC (stepC c x) (a ++ b)).2 + 1) := by rw [feedC, if_neg h]
      have e2 : feedC c (x :: a) = ((feedC (stepC c x) a).1, (feedC (stepC c x) a).2 + 1) := by rw [feedC, if_neg h]
      rw [e1, e2, ih]
      simp only [Prod.mk.injEq, true_and]
      omega
theorem step_body (c : Ck) (b : UInt8) : (stepC c b).body = c.body ∨ (stepC c b).body = c.body ++ [b] := by
  unfold stepC badC
  repeat' split
  all_goals first | exact .inl rfl | exact .inr rfl
/-- the body only grows -/
theorem feed_body (s : List UInt8) : ∀ c : Ck, ∃ t, (feedC c s).1.body = c.body ++ t := by
  induction s with
  | nil => intro c; exact ⟨[], by simp [feedC]⟩
  | cons b r ih =>
    intro c
    unfold feedC
    split
    · exact ⟨[], by simp⟩
    · obtain ⟨t, ht⟩ := ih (stepC c b)
      rcases step_body c b with e | e
      · exact ⟨t, by rw [← e]; exact ht⟩
      · exact ⟨b :: t, by simp only; rw [ht, e]; simp⟩
end

section
open Go.RowKit

theorem rest_step {c : Ck} (h : OkC c) (b : UInt8) : restC (stepC c b) ≤ restC c := by
  have hb := h.body
  have hl := h.left
  unfold restC
  unfold stepC badC
  repeat' split
  all_goals first
    | exact Nat.le_refl _
    | (simp only; omega)
    | (simp only [List.length_append, List.length_singleton]; omega)
theorem feed_rest (s : List UInt8) : ∀ {c : Ck}, OkC c → restC (feedC c s).1 ≤ restC c := by
  induction s with
  | nil => intro c _; exact Nat.le_refl _
  | cons b r ih =>
    intro c h
    unfold feedC
    split
    · exact Nat.le_refl _
    · exact Nat.le_trans (ih (okC_step h b)) (rest_step h b)
/-- the number that digits say, behind another -/
def hexN (a : Nat) (ds : List UInt8) : Nat := ds.foldl (fun a b => 16 * a + (hexV b).getD 0) a
theorem feed_digs (ds : List UInt8) : ∀ (sz dg : Nat) (B : List UInt8), (∀ b ∈ ds, hexV b ≠ none) → dg + ds.length ≤ 8 → feedC ⟨0, sz, dg, 0, B, [], 0, 0⟩ ds = (⟨0, hexN sz ds, dg + ds.length, 0, B, [], 0, 0⟩, ds.length) := by
  induction ds with
  | nil => intro sz dg B _ _; rfl
  | cons b r ih =>
    intro sz dg B hd hl
    obtain ⟨v, hv⟩ := Option.ne_none_iff_exists'.1 (hd b (by simp))
    have hl' : dg + 1 + r.length ≤ 8 := by simp only [List.length_cons] at hl; omega
    have e : stepC ⟨0, sz, dg, 0, B, [], 0, 0⟩ b = ⟨0, 16 * sz + v, dg + 1, 0, B, [], 0, 0⟩ := by
      unfold stepC
      rw [if_pos rfl, hv]
      simp only
      rw [if_pos (by omega)]
    rw [feedC, if_neg (by simp [overC]), e, ih _ _ _ (fun y hy => hd y (List.mem_cons_of_mem _ hy)) hl']
    have e2 : hexN sz (b :: r) = hexN (16 * sz + v) r := by unfold hexN; rw [List.foldl_cons, hv]; rfl
    rw [e2]
    simp only [List.length_cons, Prod.mk.injEq, and_true]
    congr 1
    omega
theorem feed_data (l : List UInt8) : ∀ (B : List UInt8), l ≠ [] → feedC ⟨2, 0, 0, l.length, B, [], 0, 0⟩ l = (⟨3, 0, 0, 0, B ++ l, [], 0, 0⟩, l.length) := by
  induction l with
  | nil => intro B h; exact absurd rfl h
  | cons b r ih =>
    intro B _
    rw [feedC, if_neg (by simp [overC])]
    by_cases hr : r = []
    · subst hr
      simp [stepC, feedC]
    · have h1 : ¬ (b :: r).length = 1 := by
        have := List.length_pos_iff.2 hr
        simp only [List.length_cons]; omega
      have e : stepC ⟨2, 0, 0, (b :: r).length, B, [], 0, 0⟩ b = ⟨2, 0, 0, r.length, B ++ [b], [], 0, 0⟩ := by
        unfold stepC
        rw [if_neg (by simp), if_neg (by simp), if_pos rfl]
        simp only
        rw [if_neg h1]
        simp
      rw [e, ih _ hr]
      simp
/-- one chunk -/
theorem feed_chunk (ds l B : List UInt8) (hd : ∀ b ∈ ds, hexV b ≠ none) (h1 : 1 ≤ ds.length) (h8 : ds.length ≤ 8) (hn : hexN 0 ds = l.length) (hl : l ≠ []) (hB : B.length + l.length ≤ 2048) :
    feedC ⟨0, 0, 0, 0, B, [], 0, 0⟩ (ds ++ [13, 10] ++ l ++ [13, 10]) = (⟨0, 0, 0, 0, B ++ l, [], 0, 0⟩, (ds ++ [13, 10] ++ l ++ [13, 10]).length) := by
  have hl0 : ¬ l.length = 0 := fun e => hl (List.eq_nil_of_length_eq_zero e)
  have e1 : feedC ⟨0, l.length, ds.length, 0, B, [], 0, 0⟩ [13, 10] = (⟨2, 0, 0, l.length, B, [], 0, 0⟩, 2) := by
    have s1 : stepC ⟨0, l.length, ds.length, 0, B, [], 0, 0⟩ 13 = ⟨1, l.length, ds.length, 0, B, [], 0, 0⟩ := by
      have hp : 0 < ds.length := by omega
      simp [stepC, show hexV 13 = none from rfl, hp]
    have s2 : stepC ⟨1, l.length, ds.length, 0, B, [], 0, 0⟩ 10 = ⟨2, 0, 0, l.length, B, [], 0, 0⟩ := by
      unfold stepC
      rw [if_neg (by simp), if_pos rfl, if_neg (by simp)]
      simp only
      rw [if_neg hl0, if_neg (by omega)]
    rw [feedC, if_neg (by simp [overC]), s1, feedC, if_neg (by simp [overC]), s2]
    rfl
  have e2 : ∀ B : List UInt8, feedC ⟨3, 0, 0, 0, B, [], 0, 0⟩ [13, 10] = (⟨0, 0, 0, 0, B, [], 0, 0⟩, 2) := fun B => by simp [feedC, stepC, overC]
  rw [feed_app, feed_app, feed_app, feed_digs ds 0 0 B hd (by omega), hn]
  simp only [Nat.zero_add]
  rw [e1]
  simp only
  rw [feed_data l B hl]
  simp only
  rw [e2]
  simp
  omega
theorem hexV_hxd (d : Nat) (h : d < 16) : hexV (hxd d) = some d := by
  have key : ∀ d : Fin 16, hexV (hxd d.val) = some d.val := by decide +kernel
  exact key ⟨d, h⟩
theorem hexN_snoc (a : Nat) (ds : List UInt8) (b : UInt8) : hexN a (ds ++ [b]) = 16 * hexN a ds + (hexV b).getD 0 := by simp [hexN]
theorem hexDigits_is (n : Nat) : hexN 0 (hexDigits n) = n ∧ ∀ b ∈ hexDigits n, hexV b ≠ none := by
  induction n using Nat.strongRecOn with
  | ind n ih =>
    by_cases h : n < 16
    · rw [hexDigits_small h]
      refine ⟨by simp [hexN, hexV_hxd n h], fun b hb => ?_⟩
      rw [List.mem_singleton.1 hb, hexV_hxd n h]; simp
    · obtain ⟨i1, i2⟩ := ih (n / 16) (by omega)
      rw [hexDigits_big h]
      refine ⟨by rw [hexN_snoc, i1, hexV_hxd _ (Nat.mod_lt _ (by omega))]; simp; omega, fun b hb => ?_⟩
      rcases List.mem_append.1 hb with hb | hb
      · exact i2 b hb
      · rw [List.mem_singleton.1 hb, hexV_hxd _ (Nat.mod_lt _ (by omega))]; simp
theorem hexDigits_len (n : Nat) (h : n ≤ 2048) : 1 ≤ (hexDigits n).length ∧ (hexDigits n).length ≤ 3 := by
  by_cases h1 : n < 16
  · rw [hexDigits_small h1]; simp
  · rw [hexDigits_big h1]
    by_cases h2 : n / 16 < 16
    · rw [hexDigits_small h2]; simp
    · rw [hexDigits_big h2, hexDigits_small (by omega)]; simp
/-- the size of the next chunk -/
def nextT (body : List UInt8) : List Nat → Nat
  | [] => body.length
  | k :: _ => min body.length k
def encT : Nat → List UInt8 → List Nat → List UInt8
  | 0, _, _ => []
  | f + 1, body, ks => if body = [] then [] else hexDigits (nextT body ks) ++ [13, 10] ++ body.take (nextT body ks) ++ [13, 10] ++ encT f (body.drop (nextT body ks)) ks.tail
def encodeT (body : List UInt8) (ks : List Nat) : List UInt8 := encT body.length body ks ++ [48, 13, 10, 13, 10]
theorem enc_fed (f : Nat) : ∀ (body : List UInt8) (ks : List Nat) (B : List UInt8), body.length ≤ f → (∀ k ∈ ks, 1 ≤ k) → B.length + body.length ≤ 2048 →
    feedC ⟨0, 0, 0, 0, B, [], 0, 0⟩ (encT f body ks) = (⟨0, 0, 0, 0, B ++ body, [], 0, 0⟩, (encT f body ks).length) := by
  induction f with
  | zero =>
    intro body ks B h _ _
    obtain rfl := List.eq_nil_of_length_eq_zero (Nat.le_zero.1 h)
    simp [encT, feedC]
  | succ f ih =>
    intro body ks B h hk hB
    unfold encT
    by_cases hb : body = []
    · subst hb
      simp [feedC]
    · rw [if_neg hb]
      have hp := List.length_pos_iff.2 hb
      have hn : 1 ≤ nextT body ks ∧ nextT body ks ≤ body.length := by
        cases ks with
        | nil => exact ⟨hp, Nat.le_refl _⟩
        | cons k r => have := hk k (by simp); show 1 ≤ min body.length k ∧ min body.length k ≤ body.length; omega
      generalize nextT body ks = n at hn
      obtain ⟨i1, i2⟩ := hexDigits_is n
      obtain ⟨l1, l2⟩ := hexDigits_len n (by omega)
      have htl : (body.take n).length = n := by rw [List.length_take]; omega
      have hc := feed_chunk (hexDigits n) (body.take n) B i2 l1 (by omega) (by rw [i1, htl]) (fun e => by rw [e] at htl; simp at htl; omega) (by omega)
      have hi := ih (body.drop n) ks.tail (B ++ body.take n) (by rw [List.length_drop]; omega) (fun k hk' => hk k (List.mem_of_mem_tail hk')) (by rw [List.length_append, List.length_drop]; omega)
      rw [feed_app, hc]
      simp only
      rw [hi, List.append_assoc B, List.take_append_drop, List.length_append (bs := encT f (body.drop n) ks.tail)]
theorem feed_end (B r : List UInt8) : feedC ⟨0, 0, 0, 0, B, [], 0, 0⟩ ([48, 13, 10, 13, 10] ++ r) = (⟨7, 0, 0, 0, B, [], 0, 0⟩, 5) := by
  rw [feed_app]
  have e : feedC ⟨0, 0, 0, 0, B, [], 0, 0⟩ [48, 13, 10, 13, 10] = (⟨7, 0, 0, 0, B, [], 0, 0⟩, 5) := by simp [feedC, stepC, overC, hexV]
  rw [e]
  simp only
  rw [feed_over rfl]
  rfl
/-- what is encoded is decoded, whatever follows -/
theorem decode_encode (body : List UInt8) (ks : List Nat) (hk : ∀ k ∈ ks, 1 ≤ k) (hb : body.length ≤ 2048) (r : List UInt8) : decodeT (encodeT body ks ++ r) = (body, (encodeT body ks).length, 200) := by
  have h : feedC newC (encodeT body ks ++ r) = (⟨7, 0, 0, 0, body, [], 0, 0⟩, (encodeT body ks).length) := by
    unfold encodeT newC
    rw [List.append_assoc, feed_app, enc_fed body.length body ks [] (Nat.le_refl _) hk (by simpa using hb)]
    simp only [List.nil_append]
    rw [feed_end]
    simp
  unfold decodeT
  rw [h]
  simp
end
end Go.Proofs.YtencphfhpnljlaaGreatDoor
