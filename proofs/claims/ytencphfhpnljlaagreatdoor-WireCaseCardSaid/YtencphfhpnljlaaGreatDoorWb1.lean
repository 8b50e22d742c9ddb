/-
  Words for texts in walks: empty or not, equal or not, blanks cut off. Lemmas of no program but for strings.Trim's contract. The contracts of package token's sets of bytes: chars, printed. The contracts of package token on one text: Is, Value, Trim. The contracts of package token on the case of letters: Lower, Same. The contracts of strings.Cut at a separator of one byte, and of package token's Cut and Colon. The contract of package token's Colon. Plain facts on lists of tokens: the elements between commas, trimmed, in small letters. No program in sight. Words on lists of texts in memory: the address written out, an element read. Lemmas of no program. Plain facts on fields: their line, their error, the first error of a list. Words on a list of fields in memory. No program in sight. The contracts of waypostkit on lists of texts: SameTexts. One element more at a slice that the call owns: texts, numbers, fields. Tests on whole numbers as the walk spells them. Lemmas of no program. The contract of waypostkit.Mod.
-/
import Derived.Test.YtencphfhpnljlaaGreatDoorWa
import Derived.Test.YtencphfhpnljlaaGreatDoorShelf
import Derived.Shelf.Strings.SlTrimAscii
import Derived.Outline
import Derived.Lib.SlBytesConst
import Derived.BigQuiet
import Derived.Lib.Join
import Derived.Deep.QuietTactic
import Derived.Test.YtencphfhpnljlaaGreatDoorProg
import Derived.WalkKit
namespace Go.Proofs.YtencphfhpnljlaaGreatDoor

section
open Go.RowKit

theorem emp_t {s : ByteArray} (h : s.size = 0) : s.toList.isEmpty = true := by
  rw [Lib.toList_data, List.isEmpty_iff]; exact List.eq_nil_of_length_eq_zero (by rw [size_l]; exact h)
theorem emp_f {s : ByteArray} (h : s.size ≠ 0) : s.toList.isEmpty = false := by
  rw [Lib.toList_data, List.isEmpty_eq_false_iff]; intro e; exact h (by rw [← size_l, e]; rfl)
theorem eqb_t {a : Nat} {b : Int} (h : (a : Int) = b) : ((a : Int) == b) = true := beq_iff_eq.2 h
theorem eqb_f {a : Nat} {b : Int} (h : (a : Int) ≠ b) : ((a : Int) == b) = false := beq_eq_false_iff_ne.2 h
/-- a text, trimmed -/
def tr (p : ByteArray) : ByteArray := ⟨(trimL p.data.toList).toArray⟩
theorem tr_list (p : ByteArray) : (tr p).data.toList = trimL p.data.toList := rfl
theorem tr_size (p : ByteArray) : (tr p).size ≤ p.size := by rw [← size_l, ← size_l]; exact trimL_le _
theorem Trim_any (s : ByteArray) (w : World) (hs : s.size ≤ 9223372036854775807) :
    Calls Tryz.prog 102 #[.string s, .string ⟨#[32, 9]⟩] w fun e w' => e = .returned (.string (tr s)) ∧ Below w.heap.size w w' := by
  have h := Any.strings_Trim_laid Tryz.lays160 (by kernel_rfl) s ⟨#[32, 9]⟩ w hs (by decide) (ascii_of_all (by decide))
  have e : Lib.trimS s.data.toList (⟨#[32, 9]⟩ : ByteArray).data.toList = trimL s.data.toList := trimS_eq _
  rw [e] at h
  exact h
end

section
open Go.RowKit

theorem Of_new (bs : List UInt8) (cs : Array Value) (n : Nat) (hcs : cs.toList = bs.map fun b => Value.int .u8 b.toNat) (hn : bs.length = n) (hlen : n ≤ 1000) (fr : Nat × Nat) (w4 : World) :
    Calls Tryz.prog 90 #[.slice (some ⟨w4.heap.size, 0, none⟩) n n] (w4.alloc (.cells cs 5 fr)) fun e w5 =>
      e = .returned (.agg #[.int .u64 (word (inB bs) 0), .int .u64 (word (inB bs) 1), .int .u64 (word (inB bs) 2), .int .u64 (word (inB bs) 3)]) ∧ Below w4.heap.size w4 w5 := by
  have hc := World.cell?_alloc_mark w4 cs 5 fr
  obtain ⟨w3, hw3⟩ : ∃ w3, w4.alloc (.cells cs 5 fr) = w3 := ⟨_, rfl⟩
  rw [hw3] at hc
  have hlt : w4.heap.size < w3.heap.size := by rw [← hw3]; simp
  have hb : Below w4.heap.size w4 w3 := by rw [← hw3]; exact (Below.refl _ _).alloc (Nat.le_refl _) _
  rw [hw3]
  have c := Of_any (some ⟨w4.heap.size, 0, none⟩) n n bs w3 ⟨by simp [hn], fun _ => ⟨_, rfl, hlt, fun j u hu => by
    rw [Addr.add_lit, Nat.zero_add, hc, ← Array.getElem?_toList, hcs]
    exact hu⟩⟩ (by omega)
  exact c.mono fun e w5 ⟨he, hb5⟩ => ⟨he, hb.trans (hb5.mono hb.size)⟩
theorem Ranges_new (rs : List (Nat × Nat)) (cs : Array Value) (n : Nat) (hcs : cs.toList = rangesC rs) (hn : rs.length = n) (hlen : n ≤ 1000) (hrs : ∀ r ∈ rs, r.1 ≤ r.2 ∧ r.2 < 256) (w4 : World) :
    Calls Tryz.prog 92 #[.slice (some ⟨w4.heap.size, 0, none⟩) n n] (w4.alloc (.cells cs 154)) fun e w5 =>
      e = .returned (.tuple #[.agg #[.int .u64 (word (inR rs) 0), .int .u64 (word (inR rs) 1), .int .u64 (word (inR rs) 2), .int .u64 (word (inR rs) 3)], .int .i64 0]) ∧ Below w4.heap.size w4 w5 := by
  obtain ⟨w3, hw3⟩ : ∃ w3, w4.alloc (.cells cs 154) = w3 := ⟨_, rfl⟩
  have hN : Blk w3 w4.heap.size 154 cs := by rw [← hw3]; exact Blk.new w4 _ _
  have hb : Below w4.heap.size w4 w3 := by rw [← hw3]; exact (Below.refl _ _).alloc (Nat.le_refl _) _
  rw [hw3]
  have c := Ranges_any (some ⟨w4.heap.size, 0, none⟩) n n rs w3 ⟨by rw [rangesC_len, hn], fun _ => ⟨_, rfl, hN.lt, fun j u hu => by
    rw [Addr.add_lit, Nat.zero_add, hN.cell, ← Array.getElem?_toList, hcs]
    exact hu⟩⟩ (by omega) hrs
  exact c.mono fun e w5 ⟨he, hb5⟩ => ⟨he, hb.trans (hb5.mono hb.size)⟩

def tokR : List (Nat × Nat) := [(48, 57), (65, 90), (97, 122)]
def tokO : List UInt8 := [33, 35, 36, 37, 38, 39, 42, 43, 45, 46, 94, 95, 96, 124, 126]
def tokP : Nat → Bool := anyP [inR tokR, inB tokO]
def valR : List (Nat × Nat) := [(33, 126), (128, 255)]
def valO : List UInt8 := [32, 9]
def valP : Nat → Bool := anyP [inR valR, inB valO]

set_option maxRecDepth 100000 in
set_option maxHeartbeats 8000000 in
theorem chars_any (w : World) : Calls Tryz.prog 61 #[] w fun e w' => e = .returned (setV tokP) ∧ Below w.heap.size w w' := by
  have hZ0 := Blk.new w 116 (setW fun _ => false)
  rw [setW_none] at hZ0
  obtain ⟨w1, hw1⟩ : ∃ w1, w.alloc (.cells #[.int .u64 0, .int .u64 0, .int .u64 0, .int .u64 0] 116) = w1 := ⟨_, rfl⟩
  have hs1 : w1.heap.size = w.heap.size + 1 := by rw [← hw1]; simp
  have hb1 : Below w.heap.size w w1 := by rw [← hw1]; exact (Below.refl _ _).alloc (Nat.le_refl _) _
  rw [hw1] at hZ0
  have cR := Ranges_new tokR #[.int .u8 48, .int .u8 57, .int .u8 65, .int .u8 90, .int .u8 97, .int .u8 122] 3 rfl rfl (by omega) (by simp [tokR]) w1
  rw [hs1] at cR
  have CR := Lib.hid cR
  have HW1 := Lib.hid hw1
  clear cR hw1
  go_enter Tryz.func61, Tryz.ntmps61
  go_wp2_with fail
  rw [HW1.out]
  (with_reducible refine (CR.out).mono ?_); rintro e w2 ⟨rfl, hb2⟩
  obtain ⟨r, hr⟩ : ∃ r, inR tokR = r := ⟨_, rfl⟩
  rw [hr]
  have hZ2 : Blk w2 w.heap.size 116 (setW fun _ => false) := by rw [setW_none]; exact hZ0.below hb2 (by omega)
  have hs2 := hb2.size
  have hb2' := hb1.trans (hb2.mono (by omega))
  obtain ⟨w3, hw3⟩ : ∃ w3, w2.alloc (.cells #[.int .u64 (word r 0), .int .u64 (word r 1), .int .u64 (word r 2), .int .u64 (word r 3)] 116) = w3 := ⟨_, rfl⟩
  have hs3 : w3.heap.size = w2.heap.size + 1 := by rw [← hw3]; simp
  have hb3 : Below w.heap.size w w3 := by rw [← hw3]; exact hb2'.alloc hb2'.size _
  have hZ3 : Blk w3 w.heap.size 116 (setW fun _ => false) := by rw [← hw3]; exact hZ2.alloc _
  have hR3 : Blk w3 w2.heap.size 116 (setW r) := by rw [← hw3]; exact Blk.new _ _ _
  obtain ⟨r0, r1, r2, r3⟩ := blk_setW hR3
  have cOf : Calls Tryz.prog 90 #[.slice (some ⟨w2.heap.size + 1, 0, none⟩) 15 15] (w3.alloc (.cells #[.int .u8 33, .int .u8 35, .int .u8 36, .int .u8 37, .int .u8 38, .int .u8 39, .int .u8 42, .int .u8 43, .int .u8 45, .int .u8 46, .int .u8 94, .int .u8 95, .int .u8 96, .int .u8 124, .int .u8 126] 5 (15, 16))).drew fun e w5 =>
      e = .returned (.agg #[.int .u64 (word (inB tokO) 0), .int .u64 (word (inB tokO) 1), .int .u64 (word (inB tokO) 2), .int .u64 (word (inB tokO) 3)]) ∧ Below w3.heap.size w3 w5 ∧
        (w5.cell? ⟨w2.heap.size, 0, none⟩ = some (.int .u64 (word r 0)) ∧ w5.cell? ⟨w2.heap.size, 1, none⟩ = some (.int .u64 (word r 1)) ∧ w5.cell? ⟨w2.heap.size, 2, none⟩ = some (.int .u64 (word r 2)) ∧ w5.cell? ⟨w2.heap.size, 3, none⟩ = some (.int .u64 (word r 3))) ∧
        Hid (Blk w5 w.heap.size 116 (setW fun _ => false)) := by
    rw [← hs3]
    refine Calls.mono (Of_new tokO #[.int .u8 33, .int .u8 35, .int .u8 36, .int .u8 37, .int .u8 38, .int .u8 39, .int .u8 42, .int .u8 43, .int .u8 45, .int .u8 46, .int .u8 94, .int .u8 95, .int .u8 96, .int .u8 124, .int .u8 126] 15 rfl rfl (by omega) (15, 16) w3.drew) ?_
    intro e w5 ⟨he, hb5⟩
    exact ⟨he, ((Below.refl _ w3).drew).trans hb5, blk_setW (hR3.drew.below hb5 hR3.lt), hide (hZ3.drew.below hb5 hZ3.lt)⟩
  obtain ⟨t, ht⟩ : ∃ t, inB tokO = t := ⟨_, rfl⟩
  have hP : tokP = anyP [r, t] := by rw [← hr, ← ht]; rfl
  rw [ht] at cOf
  have cUn : ∀ w5 : World, Hid (Blk w5 w.heap.size 116 (setW fun _ => false)) → Calls Tryz.prog 93 #[.slice (some ⟨w5.heap.size, 0, none⟩) 2 2] (w5.alloc (.cells #[.int .u64 (word r 0), .int .u64 (word r 1), .int .u64 (word r 2), .int .u64 (word r 3), .int .u64 (word t 0), .int .u64 (word t 1), .int .u64 (word t 2), .int .u64 (word t 3)] 116)) fun e w6 =>
      e = .returned (.agg #[.int .u64 (word (anyP [r, t]) 0), .int .u64 (word (anyP [r, t]) 1), .int .u64 (word (anyP [r, t]) 2), .int .u64 (word (anyP [r, t]) 3)]) ∧ Below w5.heap.size w5 w6 ∧ Eight w6 w.heap.size (fun _ => false) ∧ Hid (Blk w6 w.heap.size 116 (setW fun _ => false)) := fun w5 h5 => by
    refine Calls.mono (Union_two r t w5) ?_
    intro e w6 ⟨he, hb6⟩
    have hB := h5.out.below hb6 h5.out.lt
    exact ⟨he, hb6, blk_eight hB, hide hB⟩
  have hcv : (convert 50 50 (.slice (some ⟨w2.heap.size + 1, 0, none⟩) 15 15)).run Tryz.prog (w3.alloc (.cells #[.int .u8 33, .int .u8 35, .int .u8 36, .int .u8 37, .int .u8 38, .int .u8 39, .int .u8 42, .int .u8 43, .int .u8 45, .int .u8 46, .int .u8 94, .int .u8 95, .int .u8 96, .int .u8 124, .int .u8 126] 5)).drew = .ok (.slice (some ⟨w2.heap.size + 1, 0, none⟩) 15 15) (w3.alloc (.cells #[.int .u8 33, .int .u8 35, .int .u8 36, .int .u8 37, .int .u8 38, .int .u8 39, .int .u8 42, .int .u8 43, .int .u8 45, .int .u8 46, .int .u8 94, .int .u8 95, .int .u8 96, .int .u8 124, .int .u8 126] 5 (15, 16))).drew := by
    rw [← hs3]
    exact Lib.run_convert_bytes_const (P := Tryz.prog) w3.drew 50 5 #[.int .u8 33, .int .u8 35, .int .u8 36, .int .u8 37, .int .u8 38, .int .u8 39, .int .u8 42, .int .u8 43, .int .u8 45, .int .u8 46, .int .u8 94, .int .u8 95, .int .u8 96, .int .u8 124, .int .u8 126] 15 15 Tryz.underlying50 Tryz.underlying5
  have COF := Lib.hid cOf
  have CUN := Lib.hid cUn
  have HW3 := Lib.hid hw3
  clear cOf cUn ht hr hw3
  go_wp2_with fail
  rw [HW3.out]
  go_region_with (first
    | (go_at_call 90; refine (COF.out).mono ?_; rintro r w5 ⟨rfl, hb5, ⟨j0, j1, j2, j3⟩, hB5⟩)
    | (go_at_call 93; refine (CUN.out _ hB5).mono ?_; rintro r w6 ⟨rfl, hb6, ⟨⟨k0, k1, k2, k3⟩, l0, l1, l2, l3⟩, hB6⟩))
  all_goals go_wp2_with fail
  all_goals (
    have hl5 := hb5.size
    have hb6' := (hb3.trans (hb5.mono hb3.size)).trans (hb6.mono (by have := hb3.size; omega))
    refine bodyPost_ret (results_cell_row (p := 0) (ty := 116) (by kernel_rfl) _ _ w.heap.size 116 (setW (anyP [r, t])) (0, 0) (.array 4 114) rfl ((((hB6.out.set_ 0 _).set_ 1 _).set_ 2 _).set_ 3 _) Tryz.underlying116 rfl (by kernel_rfl)) rfl ?_
    refine ⟨by rw [hP]; rfl, (((hb6'.setCell (by simp) _).setCell (by simp) _).setCell (by simp) _).setCell (by simp) _⟩)
set_option maxRecDepth 100000 in
set_option maxHeartbeats 8000000 in
theorem printed_any (w : World) : Calls Tryz.prog 149 #[] w fun e w' => e = .returned (setV valP) ∧ Below w.heap.size w w' := by
  have hZ0 := Blk.new w 116 (setW fun _ => false)
  rw [setW_none] at hZ0
  obtain ⟨w1, hw1⟩ : ∃ w1, w.alloc (.cells #[.int .u64 0, .int .u64 0, .int .u64 0, .int .u64 0] 116) = w1 := ⟨_, rfl⟩
  have hs1 : w1.heap.size = w.heap.size + 1 := by rw [← hw1]; simp
  have hb1 : Below w.heap.size w w1 := by rw [← hw1]; exact (Below.refl _ _).alloc (Nat.le_refl _) _
  rw [hw1] at hZ0
  have cR := Ranges_new valR #[.int .u8 33, .int .u8 126, .int .u8 128, .int .u8 255] 2 rfl rfl (by omega) (by simp [valR]) w1
  rw [hs1] at cR
  have CR := Lib.hid cR
  have HW1 := Lib.hid hw1
  clear cR hw1
  go_enter Tryz.func149, Tryz.ntmps149
  go_wp2_with fail
  rw [HW1.out]
  (with_reducible refine (CR.out).mono ?_); rintro e w2 ⟨rfl, hb2⟩
  obtain ⟨r, hr⟩ : ∃ r, inR valR = r := ⟨_, rfl⟩
  rw [hr]
  have hZ2 : Blk w2 w.heap.size 116 (setW fun _ => false) := by rw [setW_none]; exact hZ0.below hb2 (by omega)
  have hs2 := hb2.size
  have hb2' := hb1.trans (hb2.mono (by omega))
  obtain ⟨w3, hw3⟩ : ∃ w3, w2.alloc (.cells #[.int .u64 (word r 0), .int .u64 (word r 1), .int .u64 (word r 2), .int .u64 (word r 3)] 116) = w3 := ⟨_, rfl⟩
  have hs3 : w3.heap.size = w2.heap.size + 1 := by rw [← hw3]; simp
  have hb3 : Below w.heap.size w w3 := by rw [← hw3]; exact hb2'.alloc hb2'.size _
  have hZ3 : Blk w3 w.heap.size 116 (setW fun _ => false) := by rw [← hw3]; exact hZ2.alloc _
  have hR3 : Blk w3 w2.heap.size 116 (setW r) := by rw [← hw3]; exact Blk.new _ _ _
  obtain ⟨r0, r1, r2, r3⟩ := blk_setW hR3
  have cOf : Calls Tryz.prog 90 #[.slice (some ⟨w2.heap.size + 1, 0, none⟩) 2 2] (w3.alloc (.cells #[.int .u8 32, .int .u8 9] 5)).drew fun e w5 =>
      e = .returned (.agg #[.int .u64 (word (inB valO) 0), .int .u64 (word (inB valO) 1), .int .u64 (word (inB valO) 2), .int .u64 (word (inB valO) 3)]) ∧ Below w3.heap.size w3 w5 ∧
        (w5.cell? ⟨w2.heap.size, 0, none⟩ = some (.int .u64 (word r 0)) ∧ w5.cell? ⟨w2.heap.size, 1, none⟩ = some (.int .u64 (word r 1)) ∧ w5.cell? ⟨w2.heap.size, 2, none⟩ = some (.int .u64 (word r 2)) ∧ w5.cell? ⟨w2.heap.size, 3, none⟩ = some (.int .u64 (word r 3))) ∧
        Hid (Blk w5 w.heap.size 116 (setW fun _ => false)) := by
    rw [← hs3]
    refine Calls.mono (Of_new valO #[.int .u8 32, .int .u8 9] 2 rfl rfl (by omega) (0, 0) w3.drew) ?_
    intro e w5 ⟨he, hb5⟩
    exact ⟨he, ((Below.refl _ w3).drew).trans hb5, blk_setW (hR3.drew.below hb5 hR3.lt), hide (hZ3.drew.below hb5 hZ3.lt)⟩
  obtain ⟨t, ht⟩ : ∃ t, inB valO = t := ⟨_, rfl⟩
  have hP : valP = anyP [r, t] := by rw [← hr, ← ht]; rfl
  rw [ht] at cOf
  have cUn : ∀ w5 : World, Hid (Blk w5 w.heap.size 116 (setW fun _ => false)) → Calls Tryz.prog 93 #[.slice (some ⟨w5.heap.size, 0, none⟩) 2 2] (w5.alloc (.cells #[.int .u64 (word r 0), .int .u64 (word r 1), .int .u64 (word r 2), .int .u64 (word r 3), .int .u64 (word t 0), .int .u64 (word t 1), .int .u64 (word t 2), .int .u64 (word t 3)] 116)) fun e w6 =>
      e = .returned (.agg #[.int .u64 (word (anyP [r, t]) 0), .int .u64 (word (anyP [r, t]) 1), .int .u64 (word (anyP [r, t]) 2), .int .u64 (word (anyP [r, t]) 3)]) ∧ Below w5.heap.size w5 w6 ∧ Eight w6 w.heap.size (fun _ => false) ∧ Hid (Blk w6 w.heap.size 116 (setW fun _ => false)) := fun w5 h5 => by
    refine Calls.mono (Union_two r t w5) ?_
    intro e w6 ⟨he, hb6⟩
    have hB := h5.out.below hb6 h5.out.lt
    exact ⟨he, hb6, blk_eight hB, hide hB⟩
  have COF := Lib.hid cOf
  have CUN := Lib.hid cUn
  have HW3 := Lib.hid hw3
  clear cOf cUn ht hr hw3
  go_wp2_with fail
  rw [HW3.out]
  go_region_with (first
    | (go_at_call 90; refine (COF.out).mono ?_; rintro r w5 ⟨rfl, hb5, ⟨j0, j1, j2, j3⟩, hB5⟩)
    | (go_at_call 93; refine (CUN.out _ hB5).mono ?_; rintro r w6 ⟨rfl, hb6, ⟨⟨k0, k1, k2, k3⟩, l0, l1, l2, l3⟩, hB6⟩))
  all_goals go_wp2_with fail
  all_goals (
    have hl5 := hb5.size
    have hb6' := (hb3.trans (hb5.mono hb3.size)).trans (hb6.mono (by have := hb3.size; omega))
    refine bodyPost_ret (results_cell_row (p := 0) (ty := 116) (by kernel_rfl) _ _ w.heap.size 116 (setW (anyP [r, t])) (0, 0) (.array 4 114) rfl ((((hB6.out.set_ 0 _).set_ 1 _).set_ 2 _).set_ 3 _) Tryz.underlying116 rfl (by kernel_rfl)) rfl ?_
    refine ⟨by rw [hP]; rfl, (((hb6'.setCell (by simp) _).setCell (by simp) _).setCell (by simp) _).setCell (by simp) _⟩)
end

section
open Go.RowKit

def isTok (l : List UInt8) : Bool := !l.isEmpty && l.all fun b => tokP b.toNat
def isVal (l : List UInt8) : Bool := trimL l == l && l.all fun b => valP b.toNat

theorem TTrim_any (s : ByteArray) (w : World) (hs : s.size ≤ 9223372036854775807) :
    Calls Tryz.prog 68 #[.string s] w fun e w' => e = .returned (.string (tr s)) ∧ Below w.heap.size w w' := by
  have C := Lib.hid (Trim_any s)
  go_enter Tryz.func68, Tryz.ntmps68
  go_wp2_with fail
  (with_reducible refine (C.out _ hs).mono ?_); rintro e w1 ⟨rfl, hb1⟩
  go_wp2_with fail
  go_ret
  exact ⟨rfl, hb1⟩
theorem TIs_any (s : ByteArray) (w : World) (hs : s.size ≤ 9223372036854775807) :
    Calls Tryz.prog 35 #[.string s] w fun e w' => e = .returned (.bool (isTok s.data.toList)) ∧ Below w.heap.size w w' := by
  have CC := Lib.hid chars_any
  have cA := fun w => All_any tokP s w hs
  have CA := Lib.hid cA
  clear cA
  go_enter Tryz.func35, Tryz.ntmps35
  by_cases h0 : s.size = 0
  · have e1 := emp_t h0
    go_wp2_with fail
    go_ret
    refine ⟨ret_bool ?_, Below.refl _ _⟩
    rw [Lib.toList_data] at e1
    simp [isTok, e1]
  · have e1 := emp_f h0
    go_wp2_with fail
    (with_reducible refine (CC.out _).mono ?_); rintro e w1 ⟨rfl, hb1⟩
    go_wp2_with fail
    (with_reducible refine (CA.out _).mono ?_); rintro e w2 ⟨rfl, hb2⟩
    go_wp2_with fail
    go_ret
    refine ⟨ret_bool ?_, hb1.trans (hb2.mono hb1.size)⟩
    rw [Lib.toList_data] at e1
    simp [isTok, e1]
theorem TValue_any (s : ByteArray) (w : World) (hs : s.size ≤ 9223372036854775807) :
    Calls Tryz.prog 123 #[.string s] w fun e w' => e = .returned (.bool (isVal s.data.toList)) ∧ Below w.heap.size w w' := by
  have CC := Lib.hid printed_any
  have cA := fun w => All_any valP s w hs
  have CA := Lib.hid cA
  have cT := fun w => TTrim_any s w hs
  have CT := Lib.hid cT
  clear cA cT
  go_enter Tryz.func123, Tryz.ntmps123
  go_wp2_with fail
  (with_reducible refine (CT.out _).mono ?_); rintro e w1 ⟨rfl, hb1⟩
  by_cases h0 : trimL s.data.toList = s.data.toList
  · have e1 : ((tr s).toList == s.toList) = true := by rw [Lib.toList_data, Lib.toList_data, tr_list, h0]; simp
    go_wp2_with fail
    (with_reducible refine (CC.out _).mono ?_); rintro e w2 ⟨rfl, hb2⟩
    go_wp2_with fail
    (with_reducible refine (CA.out _).mono ?_); rintro e w3 ⟨rfl, hb3⟩
    go_wp2_with fail
    go_ret
    refine ⟨ret_bool ?_, (hb1.trans (hb2.mono hb1.size)).trans (hb3.mono (by have := hb1.size; have := hb2.size; omega))⟩
    simp [isVal, h0]
  · have e1 : ((tr s).toList == s.toList) = false := by rw [Lib.toList_data, Lib.toList_data, tr_list]; simpa using h0
    go_wp2_with fail
    go_ret
    refine ⟨ret_bool ?_, hb1⟩
    simp [isVal, h0]
end

section
open Go.RowKit

def lowB (b : UInt8) : UInt8 := if 65 ≤ b.toNat ∧ b.toNat ≤ 90 then b + 32 else b
def lowL (l : List UInt8) : List UInt8 := l.map lowB
def low (s : ByteArray) : ByteArray := ⟨(lowL s.data.toList).toArray⟩
theorem lowB_up {b : UInt8} (h : 65 ≤ b.toNat ∧ b.toNat ≤ 90) : (lowB b).toNat = b.toNat + 32 := by
  rw [lowB, if_pos h, UInt8.toNat_add]
  show (b.toNat + 32) % 256 = _
  omega
theorem lowB_no {b : UInt8} (h : ¬ (65 ≤ b.toNat ∧ b.toNat ≤ 90)) : lowB b = b := if_neg h
theorem low_list (s : ByteArray) : (low s).data.toList = lowL s.data.toList := rfl
theorem low_size (s : ByteArray) : (low s).size = s.size := by rw [← size_l, low_list, lowL, List.length_map, size_l]

/-- the bytes while they are made small: the first k are done -/
def LowK (w : World) (g : Nat) (s : ByteArray) (k : Nat) : Prop := ∀ j (_ : j < s.size), w.cell? ⟨g, j, none⟩ = some (.int .u8 ((if j < k then lowB s[j] else s[j]).toNat : Int))
theorem LowK.step {w : World} {g : Nat} {s : ByteArray} {k : Nat} (h : LowK w g s k) (hk : k < s.size) (v : Int) (hv : v = (lowB s[k]).toNat) : LowK (w.setCell ⟨g, k, none⟩ (.int .u8 v)) g s (k + 1) := by
  intro j hj
  by_cases e : j = k
  · subst e
    rw [World.cell?_setCell_same _ _ _ (h j hj), if_pos (by omega), hv]
  · rw [World.cell?_setCell_other _ _ _ _ (by intro hc; injection hc with _ hc; exact e hc.symm), h j hj]
    by_cases hjk : j < k
    · rw [if_pos hjk, if_pos (by omega)]
    · rw [if_neg hjk, if_neg (by omega)]
theorem LowK.skip {w : World} {g : Nat} {s : ByteArray} {k : Nat} (h : LowK w g s k) (hk : k < s.size) (hv : lowB s[k] = s[k]) : LowK w g s (k + 1) := by
  intro j hj
  rw [h j hj]
  by_cases e : j = k
  · subst e; rw [if_neg (by omega), if_pos (by omega), hv]
  · by_cases hjk : j < k
    · rw [if_pos hjk, if_pos (by omega)]
    · rw [if_neg hjk, if_neg (by omega)]

set_option maxRecDepth 100000 in
set_option maxHeartbeats 4000000 in
theorem TLower_any (s : ByteArray) (w : World) (hs : s.size ≤ 9223372036854775807) :
    Calls Tryz.prog 97 #[.string s] w fun e w' => e = .returned (.string (low s)) ∧ Below w.heap.size w w' := by
  obtain ⟨cap, w1, hr, hb1, hsz, hbi, hfz⟩ := bytes_of_string (P := Tryz.prog) 9 50 5 Tryz.underlying9 Tryz.underlying50 Tryz.underlying5 w s
  have HBI := Lib.hid hbi
  have HFZ := Lib.hid hfz
  clear hbi hfz
  go_enter Tryz.func97, Tryz.ntmps97
  go_wp2_with fail
  go_loopw [4, 5, 10] (fun _ _ i wr => ∃ k : Nat, i = .int .i64 k ∧ k ≤ s.size ∧ Hid (LowK wr w.heap.size s k) ∧ Hid (∀ j, j < s.size → wr.frozen? ⟨w.heap.size, j, none⟩ = false) ∧ Below w.heap.size w wr) (fun _ _ i _ => s.size - (intOf i).toNat)
  case atStart => exact ⟨0, rfl, by omega, hide (fun j hj => by rw [if_neg (by omega)]; exact HBI.out j hj), hide HFZ.out, hb1⟩
  case round =>
    obtain ⟨k, rfl, hk, HL, HF, hb⟩ := hrel
    rename World => W0
    by_cases hlt : k < s.size
    · obtain ⟨c, hc⟩ : ∃ c, s[k] = c := ⟨_, rfl⟩
      have hcell : W0.cell? ⟨w.heap.size, k, none⟩ = some (.int .u8 c.toNat) := by rw [HL.out k hlt, if_neg (by omega), hc]
      have hfz := HF.out k hlt
      obtain ⟨n, hn⟩ : ∃ n, c.toNat = n := ⟨_, rfl⟩
      have hn8 : n < 256 := by rw [← hn]; exact c.toNat_lt
      rw [hn] at hcell
      by_cases hu : 65 ≤ n ∧ n ≤ 90
      · obtain ⟨h1, h2⟩ := hu
        go_wp2_with fail
        go_roundw
        case rel =>
          refine ⟨k + 1, by go_num, by omega, hide (HL.out.step hlt _ ?_), hide fun j hj => by rw [World.frozen?_setCell]; exact HF.out j hj, hb.setCell (by simp) _⟩
          rw [hc, lowB_up (by omega), hn]; simp
        case measure => simp [intOf]; omega
      · have hno : lowB s[k] = s[k] := lowB_no (by rw [hc, hn]; exact hu)
        have rest : 65 ≤ n ∧ 90 < n ∨ n < 65 := by omega
        rcases rest with ⟨h1, h2⟩ | h1
        all_goals (
          try have hd2 : decide ((n : Int) ≤ 90) = false := by simp; omega
          try have hd1 : decide ((65 : Int) ≤ (n : Int)) = false := by simp; omega
          go_wp2_with fail
          go_roundw
          case rel => exact ⟨k + 1, by go_num, by omega, hide (HL.out.skip hlt hno), HF, hb⟩
          case measure => simp [intOf]; omega)
    · have hkl : k = s.size := by omega
      subst hkl
      have hd : decide ((s.size : Int) < (s.size : Int)) = false := by simp
      have hll : (lowL s.data.toList).length = s.size := by rw [lowL, List.length_map, size_l]
      have hcv := run_convert_bytes_back (P := Tryz.prog) W0 50 9 5 ⟨w.heap.size, 0, none⟩ cap (lowL s.data.toList) Tryz.underlying50 Tryz.underlying5 Tryz.underlying9 (fun j hj => by
        rw [hll] at hj
        rw [Addr.add_lit, Nat.zero_add, HL.out j hj, if_pos hj]
        simp only [lowL, List.getElem_map]
        rfl)
      rw [hll] at hcv
      go_wp2_with fail
      go_ret
      exact ⟨rfl, hb⟩
theorem TSame_any (a b : ByteArray) (w : World) (ha : a.size ≤ 9223372036854775807) (hb : b.size ≤ 9223372036854775807) :
    Calls Tryz.prog 65 #[.string a, .string b] w fun e w' => e = .returned (.bool (lowL a.data.toList == lowL b.data.toList)) ∧ Below w.heap.size w w' := by
  have cA := fun w => TLower_any a w ha
  have cB := fun w => TLower_any b w hb
  have CA := Lib.hid cA
  have CB := Lib.hid cB
  clear cA cB
  go_enter Tryz.func65, Tryz.ntmps65
  go_wp2_with fail
  (with_reducible refine (CA.out _).mono ?_); rintro e w1 ⟨rfl, hb1⟩
  go_wp2_with fail
  (with_reducible refine (CB.out _).mono ?_); rintro e w2 ⟨rfl, hb2⟩
  go_wp2_with fail
  go_ret
  refine ⟨ret_bool ?_, hb1.trans (hb2.mono hb1.size)⟩
  rw [Lib.toList_data, Lib.toList_data]; rfl
end

section
open Go.RowKit

/-- what stands before the first c, what behind it, is there one -/
def cutB (c : UInt8) (l : List UInt8) : List UInt8 × List UInt8 × Bool := (l.takeWhile (· != c), (l.dropWhile (· != c)).tail, !(l.dropWhile (· != c)).isEmpty)
theorem idx_cases (c : UInt8) (l : List UInt8) : (Lib.indexByte l c = -1 ∧ cutB c l = (l, [], false)) ∨ ∃ a r, l = a ++ c :: r ∧ Lib.indexByte l c = (a.length : Int) ∧ cutB c l = (a, r, true) := by
  induction l with
  | nil => exact .inl ⟨rfl, rfl⟩
  | cons b l ih =>
    by_cases h : b = c
    · subst h
      exact .inr ⟨[], l, rfl, by simp [Lib.indexByte], by simp [cutB]⟩
    · have hbc : (b == c) = false := by simpa using h
      have e : cutB c (b :: l) = (b :: (cutB c l).1, (cutB c l).2.1, (cutB c l).2.2) := by simp [cutB, h]
      rcases ih with ⟨h1, h2⟩ | ⟨a, r, h1, h2, h3⟩
      · refine .inl ⟨by simp [Lib.indexByte, hbc, h1], ?_⟩
        rw [e, h2]
      · refine .inr ⟨b :: a, r, by rw [h1]; rfl, ?_, ?_⟩
        · simp only [Lib.indexByte, hbc, h2, Bool.false_eq_true, if_false]
          have : ((a.length : Int) == -1) = false := by rw [beq_eq_false_iff_ne]; omega
          rw [this]; simp
        · rw [e, h3]
theorem extract_list (s : ByteArray) (i j : Nat) : (s.extract i j).data.toList = (s.data.toList.take j).drop i := by
  rw [ByteArray.data_extract, Array.toList_extract, List.extract_eq_take_drop, List.take_drop]
  by_cases h : i ≤ j
  · rw [show i + (j - i) = j by omega]
  · rw [List.drop_eq_nil_of_le (by simp; omega), List.drop_eq_nil_of_le (by simp; omega)]
def bs (l : List UInt8) : ByteArray := ⟨l.toArray⟩

theorem SCut_any (s : ByteArray) (c : UInt8) (w : World) (hs : s.size ≤ 1000000) :
    Calls Tryz.prog 165 #[.string s, .string ⟨#[c]⟩] w fun e w' => e = .returned (.tuple #[.string (bs (cutB c s.data.toList).1), .string (bs (cutB c s.data.toList).2.1), .bool (cutB c s.data.toList).2.2]) ∧ ∃ m, w' = w.drewN m := by
  have cI := Tryz.stringslite_Index_one s c
  rcases idx_cases c s.data.toList with ⟨h1, h2⟩ | ⟨a, r, h1, h2, h3⟩
  · rw [h2]
    rw [h1] at cI
    have CI := Lib.hid cI
    clear cI h1 h2
    go_enter Tryz.func165, Tryz.ntmps165
    go_wp2_with fail
    (with_reducible refine (CI.out _).mono ?_); rintro e w1 ⟨rfl, rfl⟩
    go_wp2_with fail
    go_ret3
    exact ⟨rfl, 0, rfl⟩
  · rw [h3]
    rw [h2] at cI
    have CI := Lib.hid cI
    have hl : a.length + 1 + r.length = s.size := by rw [← size_l, h1]; simp; omega
    have e1 : s.extract 0 a.length = bs a := ba_ext (by rw [extract_list, h1]; simp [bs])
    have e2 : s.extract (a.length + 1) s.size = bs r := ba_ext (by
      rw [extract_list, List.take_of_length_le (by rw [size_l]; omega), h1, show a ++ c :: r = (a ++ [c]) ++ r by simp, show a.length + 1 = (a ++ [c]).length by simp, List.drop_left]; rfl)
    clear cI h1 h2 h3
    go_enter Tryz.func165, Tryz.ntmps165
    go_wp2_with fail
    (with_reducible refine (CI.out _).mono ?_); rintro e w1 ⟨rfl, rfl⟩
    go_wp2_with fail
    go_quiet (fail)
    go_wp2_with fail
    go_ret3
    exact ⟨rfl, _, rfl⟩
theorem StrCut_any (s : ByteArray) (c : UInt8) (w : World) (hs : s.size ≤ 1000000) :
    Calls Tryz.prog 147 #[.string s, .string ⟨#[c]⟩] w fun e w' => e = .returned (.tuple #[.string (bs (cutB c s.data.toList).1), .string (bs (cutB c s.data.toList).2.1), .bool (cutB c s.data.toList).2.2]) ∧ Below w.heap.size w w' := by
  obtain ⟨X, hX⟩ : ∃ X, cutB c s.data.toList = X := ⟨_, rfl⟩
  have cC := fun w => SCut_any s c w hs
  rw [hX] at cC ⊢
  have CC := Lib.hid cC
  clear cC hX
  go_enter Tryz.func147, Tryz.ntmps147
  go_wp2_with fail
  (with_reducible refine (CC.out _).mono ?_); rintro e w1 ⟨rfl, m, rfl⟩
  go_wp2_with fail
  go_ret3
  exact ⟨rfl, below_drewN (Below.refl _ _) m⟩

/-- the token with which a text begins, what is behind it, or the error -/
def tokB (b : UInt8) : Bool := tokP b.toNat
def cutT (l : List UInt8) : List UInt8 × List UInt8 × Nat := if l.takeWhile tokB = [] then ([], [], 6) else (l.takeWhile tokB, l.dropWhile tokB, 0)
theorem takeWhile_of (p : UInt8 → Bool) (l : List UInt8) (k : Nat) (hk : k ≤ l.length) (h : ∀ b ∈ l.take k, p b = true) (hn : ∀ b, l[k]? = some b → p b = false) : l.takeWhile p = l.take k ∧ l.dropWhile p = l.drop k := by
  induction l generalizing k with
  | nil => simp
  | cons a l ih =>
    cases k with
    | zero => have := hn a rfl; simp [this]
    | succ k =>
      have ha : p a = true := h a (by simp)
      obtain ⟨h1, h2⟩ := ih k (by simpa using hk) (fun b hb => h b (by simp [hb])) (fun b hb => hn b (by simpa using hb))
      simp [ha, h1, h2]

end

section
open Go.RowKit

/-- the name and the value of a line, or the error -/
def colT (l : List UInt8) : List UInt8 × List UInt8 × Nat :=
  if (cutB 58 l).2.2 && isTok (cutB 58 l).1 && isVal (trimL (cutB 58 l).2.1) then ((cutB 58 l).1, trimL (cutB 58 l).2.1, 0) else ([], [], 3)
theorem bs_list (l : List UInt8) : (bs l).data.toList = l := rfl
theorem bs_size (l : List UInt8) : (bs l).size = l.length := by rw [← size_l, bs_list]
theorem cutB_len (c : UInt8) (l : List UInt8) : (cutB c l).1.length ≤ l.length ∧ (cutB c l).2.1.length ≤ l.length := by
  rcases idx_cases c l with ⟨_, h⟩ | ⟨a, r, h1, _, h⟩
  · rw [h]; simp
  · rw [h]
    have := congrArg List.length h1
    simp at this
    simp only
    omega

set_option maxRecDepth 100000 in
theorem TColon_any (s : ByteArray) (w : World) (hs : s.size ≤ 1000000) :
    Calls Tryz.prog 116 #[.string s] w fun e w' => e = .returned (.tuple #[.string (bs (colT s.data.toList).1), .string (bs (colT s.data.toList).2.1), .int .i64 (colT s.data.toList).2.2]) ∧ Below w.heap.size w w' := by
  have cC := fun w => StrCut_any s 58 w hs
  have hlen := cutB_len 58 s.data.toList
  have hcol : ∃ n v f, cutB 58 s.data.toList = (n, v, f) ∧ colT s.data.toList = if (f && isTok n && isVal (trimL v)) = true then (n, trimL v, 0) else ([], [], 3) := ⟨_, _, _, rfl, rfl⟩
  obtain ⟨n, v, f, hX, hcol⟩ := hcol
  rw [hX, size_l] at hlen
  rw [hX] at cC
  rw [hcol]
  obtain ⟨hl1, hl2⟩ := hlen
  simp only at hl1 hl2 cC
  have etr : tr (bs v) = bs (trimL v) := rfl
  have hl3 := trimL_le v
  have cT := fun w => TTrim_any (bs v) w (by rw [bs_size]; omega)
  have cI := fun w => TIs_any (bs n) w (by rw [bs_size]; omega)
  have cV := fun w => TValue_any (bs (trimL v)) w (by rw [bs_size]; omega)
  rw [bs_list] at cI cV
  rw [etr] at cT
  have CC := Lib.hid cC
  have CT := Lib.hid cT
  have CI := Lib.hid cI
  have CV := Lib.hid cV
  clear cC cT cI cV hX hcol etr hl1 hl2 hl3
  have e0 : (bs [] : ByteArray) = ⟨#[]⟩ := rfl
  cases f
  all_goals cases h1 : isTok n
  all_goals cases h2 : isVal (trimL v)
  all_goals (
    rw [h1] at CI
    rw [h2] at CV
    go_enter Tryz.func116, Tryz.ntmps116
    go_wp2_with fail
    (with_reducible refine (CC.out _).mono ?_); rintro e w1 ⟨rfl, hb1⟩
    go_wp2_with fail
    (with_reducible refine (CT.out _).mono ?_); rintro e w2 ⟨rfl, hb2⟩
    have hb2' := hb1.trans (hb2.mono hb1.size)
    go_wp2_with fail
    first
      | (go_ret3; exact ⟨rfl, hb2'⟩)
      | ((with_reducible refine (CI.out _).mono ?_); rintro e w3 ⟨rfl, hb3⟩
         have hb3' := hb2'.trans (hb3.mono hb2'.size)
         go_wp2_with fail
         first
           | (go_ret3; exact ⟨rfl, hb3'⟩)
           | ((with_reducible refine (CV.out _).mono ?_); rintro e w4 ⟨rfl, hb4⟩
              have hb4' := hb3'.trans (hb4.mono hb3'.size)
              go_wp2_with fail
              go_ret3; exact ⟨rfl, hb4'⟩)))
end

section
open Go.RowKit

/-- an element that is neither empty nor a token -/
def badE (x : List UInt8) : Bool := !(trimL x).isEmpty && !isTok (trimL x)
/-- what an element gives -/
def pickE (x : List UInt8) : Option (List UInt8) := if (trimL x).isEmpty then none else some (lowL (trimL x))
/-- the tokens of a list, or the error -/
def listT (l : List UInt8) : List (List UInt8) × Nat :=
  if 1024 < l.length then ([], 4) else if isVal l = false then ([], 3) else if (splitC 44 l).any badE then ([], 3) else ((splitC 44 l).filterMap pickE, 0)
def strs (xs : List (List UInt8)) : List Value := xs.map fun x => .string (bs x)
theorem strs_len (xs : List (List UInt8)) : (strs xs).length = xs.length := by simp [strs]
theorem strs_app (xs ys : List (List UInt8)) : strs (xs ++ ys) = strs xs ++ strs ys := by simp [strs]
theorem strs_at (xs : List (List UInt8)) (k : Nat) (h : k < xs.length) : (strs xs)[k]? = some (.string (bs xs[k])) := by
  simp [strs, h]
theorem strs_one (xs : List (List UInt8)) : ∀ u ∈ strs xs, u.oneCell' = true := by
  intro u hu
  obtain ⟨x, _, rfl⟩ := List.mem_map.1 hu
  rfl

theorem split_none (c : UInt8) (l : List UInt8) (h : ∀ b ∈ l, b ≠ c) : splitC c l = [l] := by
  induction l with
  | nil => rfl
  | cons b l ih => exact splitC_step c b l l [] (h b (by simp)) (ih fun x hx => h x (by simp [hx]))
theorem split_at (c : UInt8) (a r : List UInt8) (h : ∀ b ∈ a, b ≠ c) : splitC c (a ++ c :: r) = a :: splitC c r := by
  induction a with
  | nil => simp [splitC]
  | cons b a ih => exact splitC_step c b _ a (splitC c r) (h b (by simp)) (ih fun x hx => h x (by simp [hx]))
theorem lowB_low (b : UInt8) : lowB (lowB b) = lowB b := by
  by_cases h : 65 ≤ b.toNat ∧ b.toNat ≤ 90
  · exact lowB_no (by rw [lowB_up h]; omega)
  · rw [lowB_no h, lowB_no h]
theorem lowL_low (l : List UInt8) : lowL (lowL l) = lowL l := by
  simp [lowL, lowB_low]
/-- each token of a list is in small letters -/
theorem listT_low (l : List UInt8) : ∀ x ∈ (listT l).1, lowL x = x := by
  intro x hx
  unfold listT at hx
  split at hx
  · simp at hx
  · split at hx
    · simp at hx
    · split at hx
      · simp at hx
      · obtain ⟨a, _, ha⟩ := List.mem_filterMap.1 hx
        unfold pickE at ha
        split at ha
        · simp at ha
        · injection ha with ha
          rw [← ha, lowL_low]
theorem lowL_len (l : List UInt8) : (lowL l).length = l.length := by simp [lowL]
theorem filterMap_len (xs : List (List UInt8)) : (xs.filterMap pickE).length ≤ xs.length := List.length_filterMap_le _ _
theorem listT_len (l : List UInt8) : (listT l).1.length ≤ 1025 ∧ ∀ x ∈ (listT l).1, x.length ≤ 1024 := by
  unfold listT
  split
  · simp
  · split
    · simp
    · split
      · simp
      · rename_i h _ _
        obtain ⟨h1, h2⟩ := splitC_len 44 l
        refine ⟨by have := filterMap_len (splitC 44 l); simp only; omega, fun x hx => ?_⟩
        obtain ⟨a, ha, hp⟩ := List.mem_filterMap.1 hx
        have := h2 a ha
        unfold pickE at hp
        split at hp
        · simp at hp
        · injection hp with hp
          rw [← hp, lowL_len]
          have := trimL_le a
          omega
end

section
open Go.RowKit

theorem Reads.lit {w : World} {B n : Nat} {A : Option Addr} {xs : List Value} (h : Reads w B 1 A n xs) (hn : 0 < n) : ∃ b o, A = some ⟨b, o, none⟩ ∧ b < B ∧ ∀ j u, xs[j]? = some u → w.cell? ⟨b, o + j, none⟩ = some u := by
  obtain ⟨ad, e, hb, hc⟩ := h.2 hn
  obtain ⟨b, o, s⟩ := ad
  have hl : 0 < xs.length := by have := h.1; omega
  have h0 := hc 0 _ (List.getElem?_eq_getElem hl)
  have hs : s = none := by
    cases s with
    | none => rfl
    | some k =>
      simp only [Addr.add, if_true] at h0
      unfold World.cell? at h0
      simp only [Option.isSome_some, if_true] at h0
      split at h0 <;> simp at h0
  subst hs
  refine ⟨b, o, e, hb, fun j u hu => ?_⟩
  have := hc j u hu
  rwa [Addr.add_lit] at this
/-- an element of a list of texts -/
theorem Reads.text {w : World} {B n : Nat} {A : Option Addr} {xs : List (List UInt8)} (h : Reads w B 1 A n (strs xs)) (k : Nat) (hk : k < xs.length) : ∃ b o, A = some ⟨b, o, none⟩ ∧ b < B ∧ w.cell? ⟨b, o + k, none⟩ = some (.string (bs xs[k])) := by
  have hl := h.1
  rw [strs_len] at hl
  obtain ⟨b, o, e, hb, hc⟩ := h.lit (by omega)
  exact ⟨b, o, e, hb, hc k _ (strs_at xs k hk)⟩
theorem Reads.len {w : World} {B n : Nat} {A : Option Addr} {xs : List (List UInt8)} (h : Reads w B 1 A n (strs xs)) : n = xs.length := by
  have := h.1; rw [strs_len] at this; omega

def sep2 : List UInt8 := [44, 32]
def joinL (xs : List (List UInt8)) : List UInt8 := Lib.join xs sep2
theorem joinL_nil : joinL [] = [] := rfl
theorem joinL_succ (xs : List (List UInt8)) (k : Nat) (h : k < xs.length) : joinL (xs.take (k + 1)) = if k = 0 then xs[k] else joinL (xs.take k) ++ sep2 ++ xs[k] := by
  cases xs with
  | nil => simp at h
  | cons x r =>
    cases k with
    | zero => simp [joinL, Lib.join_one]
    | succ k =>
      have hk : k < r.length := by simpa using h
      rw [if_neg (by omega), List.take_succ_cons, List.take_succ_cons]
      unfold joinL
      rw [Lib.join_cons, Lib.join_cons, Lib.joinTail_take_succ sep2 r k r[k] (List.getElem?_eq_getElem hk)]
      simp
theorem joinL_take_le (xs : List (List UInt8)) (k : Nat) : (joinL (xs.take k)).length ≤ (joinL xs).length := by
  cases xs with
  | nil => simp [joinL]
  | cons x r =>
    cases k with
    | zero => simp [joinL, Lib.join_nil]
    | succ k =>
      rw [List.take_succ_cons]
      unfold joinL
      rw [Lib.join_cons, Lib.join_cons, List.length_append, List.length_append]
      have := Lib.joinTail_take_le sep2 r k
      omega
/-- a list written, or the error -/
def joinT (xs : List (List UInt8)) : List UInt8 × Nat := if xs.all isTok then (joinL xs, 0) else ([], 3)
/-- has a list a token, or the error -/
def holdsT (l t : List UInt8) : Bool × Nat := if (listT l).2 ≠ 0 then (false, (listT l).2) else if isTok t = false then (false, 3) else ((listT l).1.contains (lowL t), 0)
end

section
open Go.RowKit

abbrev Fld := List UInt8 × List UInt8
/-- the line of a field -/
def lineL (f : Fld) : List UInt8 := if f.2 = [] then f.1 ++ [58] else f.1 ++ [58, 32] ++ f.2
/-- the error of a field -/
def oneL (f : Fld) : Nat := if isTok f.1 = false then 11 else if isVal f.2 = false then 3 else if 512 < (lineL f).length then 4 else 0
/-- the first error of a list, from number k on -/
def firstE : Nat → List Fld → Nat × Nat
  | _, [] => (0, 0)
  | k, f :: l => if oneL f ≠ 0 then (oneL f, k) else firstE (k + 1) l
def checkL (l : List Fld) : Nat × Nat := if 32 < l.length then (5, 0) else firstE 0 l
theorem firstE_skip (k : Nat) (l : List Fld) (j : Nat) (h : ∀ f ∈ l.take j, oneL f = 0) (hj : j ≤ l.length) : firstE k l = firstE (k + j) (l.drop j) := by
  induction l generalizing k j with
  | nil => simp at hj; subst hj; rfl
  | cons f l ih =>
    cases j with
    | zero => rfl
    | succ j =>
      have hf : oneL f = 0 := h f (by simp)
      rw [firstE, if_neg (by simp [hf]), ih (k + 1) j (fun g hg => h g (by simp [hg])) (by simpa using hj), List.drop_succ_cons, show k + 1 + j = k + (j + 1) by omega]
theorem firstE_at (l : List Fld) (j : Nat) (hj : j < l.length) (h : ∀ f ∈ l.take j, oneL f = 0) (hn : oneL l[j] ≠ 0) : firstE 0 l = (oneL l[j], j) := by
  rw [firstE_skip 0 l j h (by omega), List.drop_eq_getElem_cons hj, firstE, if_pos hn, Nat.zero_add]
theorem firstE_none (l : List Fld) (h : ∀ f ∈ l, oneL f = 0) : firstE 0 l = (0, 0) := by
  rw [firstE_skip 0 l l.length (by rw [List.take_length]; exact h) (by omega), List.drop_length]; rfl
theorem firstE_zero {k : Nat} {l : List Fld} (h : (firstE k l).1 = 0) : ∀ f ∈ l, oneL f = 0 := by
  induction l generalizing k with
  | nil => simp
  | cons f l ih =>
    rw [firstE] at h
    split at h
    · rename_i hn; exact absurd h hn
    · rename_i hn
      intro g hg
      rcases List.mem_cons.1 hg with rfl | hg
      · simpa using hn
      · exact ih h g hg
theorem firstE_snd {k : Nat} {l : List Fld} (h : (firstE k l).1 = 0) : (firstE k l).2 = 0 := by
  induction l generalizing k with
  | nil => rfl
  | cons f l ih =>
    rw [firstE] at h ⊢
    split
    · rename_i hn; rw [if_pos hn] at h; exact absurd h hn
    · rename_i hn; rw [if_neg hn] at h; exact ih h
theorem lineL_len (f : Fld) : (lineL f).length ≤ f.1.length + f.2.length + 2 := by
  unfold lineL; split <;> simp <;> omega

/-- a field as a value, a list of fields as cells -/
def fldV (f : Fld) : Value := .agg #[.string (bs f.1), .string (bs f.2)]
def fldsC (l : List Fld) : List Value := l.flatMap fun f => [.string (bs f.1), .string (bs f.2)]
theorem fldsC_len (l : List Fld) : (fldsC l).length = l.length * 2 := by
  unfold fldsC
  induction l with
  | nil => rfl
  | cons f l ih => rw [List.flatMap_cons, List.length_append, ih]; simp; omega
theorem fldsC_app (l m : List Fld) : fldsC (l ++ m) = fldsC l ++ fldsC m := by simp [fldsC]
theorem fldsC_get (l : List Fld) (k : Nat) (h : k < l.length) : (fldsC l)[k * 2]? = some (.string (bs l[k].1)) ∧ (fldsC l)[k * 2 + 1]? = some (.string (bs l[k].2)) := by
  induction l generalizing k with
  | nil => simp at h
  | cons f l ih =>
    unfold fldsC at ih ⊢
    rw [List.flatMap_cons]
    cases k with
    | zero => exact ⟨rfl, rfl⟩
    | succ k =>
      have h' : k < l.length := by simpa using h
      have := ih k h'
      rw [List.getElem?_append_right (by simp; omega), List.getElem?_append_right (by simp; omega)]
      simpa [show (k + 1) * 2 - (0 + 1 + 1) = k * 2 by omega, show (k + 1) * 2 + 1 - (0 + 1 + 1) = k * 2 + 1 by omega] using this
theorem fldsC_one (l : List Fld) : ∀ u ∈ fldsC l, u.oneCell' = true := by
  intro u hu
  obtain ⟨f, _, hf⟩ := List.mem_flatMap.1 hu
  simp at hf
  rcases hf with rfl | rfl <;> rfl
theorem Reads.flen {w : World} {B n : Nat} {A : Option Addr} {l : List Fld} (h : Reads w B 2 A n (fldsC l)) : n = l.length := by
  have := h.1; rw [fldsC_len] at this; omega
/-- a field of a list of fields -/
theorem Reads.fld {w : World} {B n : Nat} {A : Option Addr} {l : List Fld} (h : Reads w B 2 A n (fldsC l)) (k : Nat) (hk : k < l.length) :
    ∃ b o, A = some ⟨b, o, none⟩ ∧ b < B ∧ w.cell? ⟨b, o + k * 2, none⟩ = some (.string (bs l[k].1)) ∧ w.cell? ⟨b, o + k * 2 + 1, none⟩ = some (.string (bs l[k].2)) := by
  have hn := h.flen
  obtain ⟨ad, e, hb, hc⟩ := h.2 (by omega)
  obtain ⟨b, o, s⟩ := ad
  have hs : s = none := by
    cases s with
    | none => rfl
    | some q =>
      have h0 := hc 0 _ (fldsC_get l 0 (by omega)).1
      simp only [Addr.add, if_true] at h0
      unfold World.cell? at h0
      simp only [Option.isSome_some, if_true] at h0
      split at h0 <;> simp at h0
  subst hs
  obtain ⟨g1, g2⟩ := fldsC_get l k hk
  have c1 := hc _ _ g1
  have c2 := hc _ _ g2
  rw [Addr.add_lit] at c1 c2
  exact ⟨b, o, e, hb, c1, by rw [Nat.add_assoc]; exact c2⟩
end

section
open Go.RowKit

theorem ne_texts {x y : List UInt8} (h : x ≠ y) : ((bs x).toList == (bs y).toList) = false := by
  rw [Lib.toList_data, Lib.toList_data, bs_list, bs_list, beq_eq_false_iff_ne]; exact h
theorem eq_texts {x y : List UInt8} (h : x = y) : ((bs x).toList == (bs y).toList) = true := by
  subst h; simp
theorem beq_len {α : Type} [BEq α] [LawfulBEq α] {x y : List α} (h : x.length ≠ y.length) : (x == y) = false := by
  rw [beq_eq_false_iff_ne]; intro e; exact h (by rw [e])
theorem take_succ_eq {α : Type} {x y : List α} {k : Nat} (hx : k < x.length) (hy : k < y.length) (h : x.take k = y.take k) (e : x[k] = y[k]) : x.take (k + 1) = y.take (k + 1) := by
  rw [List.take_succ_eq_append_getElem hx, List.take_succ_eq_append_getElem hy, h, e]

/-- a list literal of texts, in its new block -/
theorem reads_new (w : World) (t : TypeId) (xs : List (List UInt8)) (cs : Array Value) (h : cs.toList = strs xs) : Reads (w.alloc (.cells cs t)) (w.alloc (.cells cs t)).heap.size 1 (some ⟨w.heap.size, 0, none⟩) xs.length (strs xs) := by
  refine ⟨by rw [strs_len, Nat.mul_one], fun _ => ⟨_, rfl, by simp, fun j u hu => ?_⟩⟩
  rw [Addr.add_lit, Nat.zero_add, (Blk.new w t cs).cell j]
  rw [← h] at hu
  simpa using hu
end

section
open Go.RowKit

theorem infoStrA : (Tryz.prog.info? 9).map (fun i => (i.zero, i.size, i.bytes)) = some (some (.string .empty), 1, 16) := by kernel_rfl
theorem infoIntA : (Tryz.prog.info? 3).map (fun i => (i.zero, i.size, i.bytes)) = some (some (.int .i64 0), 1, 8) := by kernel_rfl
theorem infoFldA : (Tryz.prog.info? 49).map (fun i => (i.zero, i.size, i.bytes)) = some (some (.agg #[.string .empty, .string .empty]), 2, 32) := by kernel_rfl

def ints (l : List Nat) : List Value := l.map fun i : Nat => Value.int .i64 (i : Int)
theorem ints_app (l m : List Nat) : ints (l ++ m) = ints l ++ ints m := by simp [ints]
theorem ints_len (l : List Nat) : (ints l).length = l.length := by simp [ints]
theorem ints_get (l : List Nat) (k : Nat) (h : k < l.length) : (ints l)[k]? = some (.int .i64 l[k]) := by simp [ints, h]

theorem app_txt {base : Nat} {W : World} {v : Value} {xs : List (List UInt8)} (ho : W.ownsRow base 9 1 v xs.length (strs xs)) (hb : base ≤ W.heap.size) (hl : xs.length ≤ 1000000) (y : List UInt8) :
    ∃ v' w5, (Builtin.append_ #[51, 51] 51 #[v, .slice (some ⟨W.heap.size, 0, none⟩) 1 1]).run Tryz.prog (W.alloc (.cells #[.string (bs y)] 9)) = .ok v' w5 ∧ w5.ownsRow base 9 1 v' (xs ++ [y]).length (strs (xs ++ [y])) ∧
      Below base W w5 ∧ W.grownBy w5 v.ownBlock := by
  obtain ⟨i0, hi, hz0, hz1, hz2⟩ := info_parts infoStrA
  obtain ⟨v', w5, hrun, hown, hg, hlt, _⟩ := app_one (P := Tryz.prog) 51 51 9 i0 (.string .empty) 1 16 Tryz.underlying51 hi hz0 hz1 hz2 rfl (by decide) base W v _ _ ho #[.string (bs y)] rfl (by intro u hu; simp at hu; subst hu; rfl) 9 (by unfold maxLen; omega) (by omega) hb
  refine ⟨v', w5, hrun, ?_, (Below.refl base W).grown hg hb (own_ge ho), hg⟩
  rw [strs_app, List.length_append]; exact hown
theorem app_int {base : Nat} {W : World} {v : Value} {xs : List Nat} (ho : W.ownsRow base 3 1 v xs.length (ints xs)) (hb : base ≤ W.heap.size) (hl : xs.length ≤ 1000000) (y : Nat) :
    ∃ v' w5, (Builtin.append_ #[22, 22] 22 #[v, .slice (some ⟨W.heap.size, 0, none⟩) 1 1]).run Tryz.prog (W.alloc (.cells #[.int .i64 y] 3)) = .ok v' w5 ∧ w5.ownsRow base 3 1 v' (xs ++ [y]).length (ints (xs ++ [y])) ∧
      Below base W w5 ∧ W.grownBy w5 v.ownBlock := by
  obtain ⟨i0, hi, hz0, hz1, hz2⟩ := info_parts infoIntA
  obtain ⟨v', w5, hrun, hown, hg, hlt, _⟩ := app_one (P := Tryz.prog) 22 22 3 i0 (.int .i64 0) 1 8 Tryz.underlying22 hi hz0 hz1 hz2 rfl (by decide) base W v _ _ ho #[.int .i64 y] rfl (by intro u hu; simp at hu; subst hu; rfl) 3 (by unfold maxLen; omega) (by omega) hb
  refine ⟨v', w5, hrun, ?_, (Below.refl base W).grown hg hb (own_ge ho), hg⟩
  rw [ints_app, List.length_append]; exact hown
theorem app_fld {base : Nat} {W : World} {v : Value} {xs : List Fld} (ho : W.ownsRow base 49 2 v xs.length (fldsC xs)) (hb : base ≤ W.heap.size) (hl : xs.length ≤ 1000000) (y : Fld) :
    ∃ v' w5, (Builtin.append_ #[25, 25] 25 #[v, .slice (some ⟨W.heap.size, 0, none⟩) 1 1]).run Tryz.prog (W.alloc (.cells #[.string (bs y.1), .string (bs y.2)] 49)) = .ok v' w5 ∧ w5.ownsRow base 49 2 v' (xs ++ [y]).length (fldsC (xs ++ [y])) ∧
      Below base W w5 ∧ W.grownBy w5 v.ownBlock := by
  obtain ⟨i0, hi, hz0, hz1, hz2⟩ := info_parts infoFldA
  obtain ⟨v', w5, hrun, hown, hg, hlt, _⟩ := app_one (P := Tryz.prog) 25 25 49 i0 (.agg #[.string .empty, .string .empty]) 2 32 Tryz.underlying25 hi hz0 hz1 hz2 rfl (by decide) base W v _ _ ho #[.string (bs y.1), .string (bs y.2)] rfl (by intro u hu; simp at hu; rcases hu with rfl | rfl <;> rfl) 49 (by unfold maxLen; omega) (by omega) hb
  refine ⟨v', w5, hrun, ?_, (Below.refl base W).grown hg hb (own_ge ho), hg⟩
  rw [fldsC_app, List.length_append]; exact hown
end

section
theorem beqT {a b : Int} (h : a = b) : (a == b) = true := beq_iff_eq.2 h
theorem beqF {a b : Int} (h : a ≠ b) : (a == b) = false := beq_eq_false_iff_ne.2 h
theorem bneT {a b : Int} (h : a ≠ b) : (a != b) = true := bne_iff_ne.2 h
theorem bneF {a b : Int} (h : a = b) : (a != b) = false := by simp [h]
end

section
open Go.RowKit

/-- what Mod returns lies from 0 to m - 1 -/
def ModPost (m : Int) (w : World) (e : Ending) (w' : World) : Prop := ∃ r : Int, 0 ≤ r ∧ r < m ∧ e = .returned (.int .i64 r) ∧ w = w'
theorem Mod_any (n m : Int) (w : World) (hn1 : -9223372036854775808 ≤ n) (hn2 : n ≤ 9223372036854775807) (hm : 1 ≤ m) (hm2 : m ≤ 1099511627776) :
    Calls Tryz.prog 15 #[.int .i64 n, .int .i64 m] w (ModPost m w) := by
  have d1 : decide (m < 1) = false := by simp; omega
  have u1 := Int.tmod_lt_of_pos n (show 0 < m by omega)
  have u2 := Int.lt_tmod_of_pos n (show 0 < m by omega)
  by_cases hp : 0 ≤ n
  · have hr := Int.emod_nonneg n (show m ≠ 0 by omega)
    have hr2 := Int.emod_lt_of_pos n (show 0 < m by omega)
    have d2 : decide (n % m < 0) = false := by simp; omega
    clear u1 u2
    go_enter Tryz.func15, Tryz.ntmps15
    go_wp2_with fail
    go_ret
    exact ⟨n % m, hr, hr2, rfl, rfl⟩
  · have hneg : n < 0 := by omega
    by_cases h0 : n.tmod m < 0
    · have d2 : decide (n.tmod m < 0) = true := by simpa using h0
      go_enter Tryz.func15, Tryz.ntmps15
      go_wp2_with fail
      go_ret
      exact ⟨n.tmod m + m, by omega, by omega, rfl, rfl⟩
    · have d2 : decide (n.tmod m < 0) = false := by simpa using h0
      go_enter Tryz.func15, Tryz.ntmps15
      go_wp2_with fail
      go_ret
      exact ⟨n.tmod m, by omega, by omega, rfl, rfl⟩
end
end Go.Proofs.YtencphfhpnljlaaGreatDoor
