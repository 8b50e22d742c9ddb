/-
  The contracts of package token's sets of bytes: chars, printed.
-/
import Derived.Test.YthhlnpfcpgfcfaaGreatDoorBs4
import Derived.Lib.SlBytesConst
namespace Go.Proofs.YthhlnpfcpgfcfaaGreatDoor
open Go.RowKit

theorem Of_new (bs : List UInt8) (cs : Array Value) (n : Nat) (hcs : cs.toList = bs.map fun b => Value.int .u8 b.toNat) (hn : bs.length = n) (hlen : n ≤ 1000) (fr : Nat × Nat) (w4 : World) :
    Calls Tryz.prog 125 #[.slice (some ⟨w4.heap.size, 0, none⟩) n n] (w4.alloc (.cells cs 5 fr)) fun e w5 =>
      e = .returned (.agg #[.int .u64 (word (inB bs) 0), .int .u64 (word (inB bs) 1), .int .u64 (word (inB bs) 2), .int .u64 (word (inB bs) 3)]) ∧ Below w4.heap.size w4 w5 := by
  have hc := World.cell?_alloc_mark w4 cs 5 fr
  obtain ⟨w3, hw3⟩ : ∃ w3, w4.alloc (.cells cs 5 fr) = w3 := ⟨_, rfl⟩
  rw [hw3] at hc
  have hlt : w4.heap.size < w3.heap.size := by rw [← hw3]; simp
  have hb : Below w4.heap.size w4 w3 := by rw [← hw3]; exact (Below.refl _ _).alloc (Nat.le_refl _) _
  rw [hw3]
  have c := Of_any (some ⟨w4.heap.size, 0, none⟩) n n bs w3 ⟨by simp [hn], fun _ => ⟨_, rfl, hlt, fun j u hu => by
    rw [Addr.add_lit, Nat.zero_add, hc, ← Array.getElem?_toList, hcs]
    exact hu⟩⟩ (by omega)
  exact c.mono fun e w5 ⟨he, hb5⟩ => ⟨he, hb.trans (hb5.mono hb.size)⟩
theorem Ranges_new (rs : List (Nat × Nat)) (cs : Array Value) (n : Nat) (hcs : cs.toList = rangesC rs) (hn : rs.length = n) (hlen : n ≤ 1000) (hrs : ∀ r ∈ rs, r.1 ≤ r.2 ∧ r.2 < 256) (w4 : World) :
    Calls Tryz.prog 127 #[.slice (some ⟨w4.heap.size, 0, none⟩) n n] (w4.alloc (.cells cs 163)) fun e w5 =>
      e = .returned (.tuple #[.agg #[.int .u64 (word (inR rs) 0), .int .u64 (word (inR rs) 1), .int .u64 (word (inR rs) 2), .int .u64 (word (inR rs) 3)], .int .i64 0]) ∧ Below w4.heap.size w4 w5 := by
  obtain ⟨w3, hw3⟩ : ∃ w3, w4.alloc (.cells cs 163) = w3 := ⟨_, rfl⟩
  have hN : Blk w3 w4.heap.size 163 cs := by rw [← hw3]; exact Blk.new w4 _ _
  have hb : Below w4.heap.size w4 w3 := by rw [← hw3]; exact (Below.refl _ _).alloc (Nat.le_refl _) _
  rw [hw3]
  have c := Ranges_any (some ⟨w4.heap.size, 0, none⟩) n n rs w3 ⟨by rw [rangesC_len, hn], fun _ => ⟨_, rfl, hN.lt, fun j u hu => by
    rw [Addr.add_lit, Nat.zero_add, hN.cell, ← Array.getElem?_toList, hcs]
    exact hu⟩⟩ (by omega) hrs
  exact c.mono fun e w5 ⟨he, hb5⟩ => ⟨he, hb.trans (hb5.mono hb.size)⟩

def tokR : List (Nat × Nat) := [(48, 57), (65, 90), (97, 122)]
def tokO : List UInt8 := [33, 35, 36, 37, 38, 39, 42, 43, 45, 46, 94, 95, 96, 124, 126]
def tokP : Nat → Bool := anyP [inR tokR, inB tokO]
def valR : List (Nat × Nat) := [(33, 126), (128, 255)]
def valO : List UInt8 := [32, 9]
def valP : Nat → Bool := anyP [inR valR, inB valO]

set_option maxRecDepth 100000 in
set_option maxHeartbeats 8000000 in
theorem chars_any (w : World) : Calls Tryz.prog 101 #[] w fun e w' => e = .returned (setV tokP) ∧ Below w.heap.size w w' := by
  have hZ0 := Blk.new w 141 (setW fun _ => false)
  rw [setW_none] at hZ0
  obtain ⟨w1, hw1⟩ : ∃ w1, w.alloc (.cells #[.int .u64 0, .int .u64 0, .int .u64 0, .int .u64 0] 141) = w1 := ⟨_, rfl⟩
  have hs1 : w1.heap.size = w.heap.size + 1 := by rw [← hw1]; simp
  have hb1 : Below w.heap.size w w1 := by rw [← hw1]; exact (Below.refl _ _).alloc (Nat.le_refl _) _
  rw [hw1] at hZ0
  have cR := Ranges_new tokR #[.int .u8 48, .int .u8 57, .int .u8 65, .int .u8 90, .int .u8 97, .int .u8 122] 3 rfl rfl (by omega) (by simp [tokR]) w1
  rw [hs1] at cR
  have CR := Lib.hid cR
  have HW1 := Lib.hid hw1
  clear cR hw1
  go_enter Tryz.func101, Tryz.ntmps101
  go_wp2_with fail
  rw [HW1.out]
  (with_reducible refine (CR.out).mono ?_); rintro e w2 ⟨rfl, hb2⟩
  obtain ⟨r, hr⟩ : ∃ r, inR tokR = r := ⟨_, rfl⟩
  rw [hr]
  have hZ2 : Blk w2 w.heap.size 141 (setW fun _ => false) := by rw [setW_none]; exact hZ0.below hb2 (by omega)
  have hs2 := hb2.size
  have hb2' := hb1.trans (hb2.mono (by omega))
  obtain ⟨w3, hw3⟩ : ∃ w3, w2.alloc (.cells #[.int .u64 (word r 0), .int .u64 (word r 1), .int .u64 (word r 2), .int .u64 (word r 3)] 141) = w3 := ⟨_, rfl⟩
  have hs3 : w3.heap.size = w2.heap.size + 1 := by rw [← hw3]; simp
  have hb3 : Below w.heap.size w w3 := by rw [← hw3]; exact hb2'.alloc hb2'.size _
  have hZ3 : Blk w3 w.heap.size 141 (setW fun _ => false) := by rw [← hw3]; exact hZ2.alloc _
  have hR3 : Blk w3 w2.heap.size 141 (setW r) := by rw [← hw3]; exact Blk.new _ _ _
  obtain ⟨r0, r1, r2, r3⟩ := blk_setW hR3
  have cOf : Calls Tryz.prog 125 #[.slice (some ⟨w2.heap.size + 1, 0, none⟩) 15 15] (w3.alloc (.cells #[.int .u8 33, .int .u8 35, .int .u8 36, .int .u8 37, .int .u8 38, .int .u8 39, .int .u8 42, .int .u8 43, .int .u8 45, .int .u8 46, .int .u8 94, .int .u8 95, .int .u8 96, .int .u8 124, .int .u8 126] 5 (15, 16))).drew fun e w5 =>
      e = .returned (.agg #[.int .u64 (word (inB tokO) 0), .int .u64 (word (inB tokO) 1), .int .u64 (word (inB tokO) 2), .int .u64 (word (inB tokO) 3)]) ∧ Below w3.heap.size w3 w5 ∧
        (w5.cell? ⟨w2.heap.size, 0, none⟩ = some (.int .u64 (word r 0)) ∧ w5.cell? ⟨w2.heap.size, 1, none⟩ = some (.int .u64 (word r 1)) ∧ w5.cell? ⟨w2.heap.size, 2, none⟩ = some (.int .u64 (word r 2)) ∧ w5.cell? ⟨w2.heap.size, 3, none⟩ = some (.int .u64 (word r 3))) ∧
        Hid (Blk w5 w.heap.size 141 (setW fun _ => false)) := by
    rw [← hs3]
    refine Calls.mono (Of_new tokO #[.int .u8 33, .int .u8 35, .int .u8 36, .int .u8 37, .int .u8 38, .int .u8 39, .int .u8 42, .int .u8 43, .int .u8 45, .int .u8 46, .int .u8 94, .int .u8 95, .int .u8 96, .int .u8 124, .int .u8 126] 15 rfl rfl (by omega) (15, 16) w3.drew) ?_
    intro e w5 ⟨he, hb5⟩
    exact ⟨he, ((Below.refl _ w3).drew).trans hb5, blk_setW (hR3.drew.below hb5 hR3.lt), hide (hZ3.drew.below hb5 hZ3.lt)⟩
  obtain ⟨t, ht⟩ : ∃ t, inB tokO = t := ⟨_, rfl⟩
  have hP : tokP = anyP [r, t] := by rw [← hr, ← ht]; rfl
  rw [ht] at cOf
  have cUn : ∀ w5 : World, Hid (Blk w5 w.heap.size 141 (setW fun _ => false)) → Calls Tryz.prog 128 #[.slice (some ⟨w5.heap.size, 0, none⟩) 2 2] (w5.alloc (.cells #[.int .u64 (word r 0), .int .u64 (word r 1), .int .u64 (word r 2), .int .u64 (word r 3), .int .u64 (word t 0), .int .u64 (word t 1), .int .u64 (word t 2), .int .u64 (word t 3)] 141)) fun e w6 =>
      e = .returned (.agg #[.int .u64 (word (anyP [r, t]) 0), .int .u64 (word (anyP [r, t]) 1), .int .u64 (word (anyP [r, t]) 2), .int .u64 (word (anyP [r, t]) 3)]) ∧ Below w5.heap.size w5 w6 ∧ Eight w6 w.heap.size (fun _ => false) ∧ Hid (Blk w6 w.heap.size 141 (setW fun _ => false)) := fun w5 h5 => by
    refine Calls.mono (Union_two r t w5) ?_
    intro e w6 ⟨he, hb6⟩
    have hB := h5.out.below hb6 h5.out.lt
    exact ⟨he, hb6, blk_eight hB, hide hB⟩
  have hcv : (convert 66 66 (.slice (some ⟨w2.heap.size + 1, 0, none⟩) 15 15)).run Tryz.prog (w3.alloc (.cells #[.int .u8 33, .int .u8 35, .int .u8 36, .int .u8 37, .int .u8 38, .int .u8 39, .int .u8 42, .int .u8 43, .int .u8 45, .int .u8 46, .int .u8 94, .int .u8 95, .int .u8 96, .int .u8 124, .int .u8 126] 5)).drew = .ok (.slice (some ⟨w2.heap.size + 1, 0, none⟩) 15 15) (w3.alloc (.cells #[.int .u8 33, .int .u8 35, .int .u8 36, .int .u8 37, .int .u8 38, .int .u8 39, .int .u8 42, .int .u8 43, .int .u8 45, .int .u8 46, .int .u8 94, .int .u8 95, .int .u8 96, .int .u8 124, .int .u8 126] 5 (15, 16))).drew := by
    rw [← hs3]
    exact Lib.run_convert_bytes_const (P := Tryz.prog) w3.drew 66 5 #[.int .u8 33, .int .u8 35, .int .u8 36, .int .u8 37, .int .u8 38, .int .u8 39, .int .u8 42, .int .u8 43, .int .u8 45, .int .u8 46, .int .u8 94, .int .u8 95, .int .u8 96, .int .u8 124, .int .u8 126] 15 15 Tryz.underlying66 Tryz.underlying5
  have COF := Lib.hid cOf
  have CUN := Lib.hid cUn
  have HW3 := Lib.hid hw3
  clear cOf cUn ht hr hw3
  go_wp2_with fail
  rw [HW3.out]
  go_region_with (first
    | (go_at_call 125; refine (COF.out).mono ?_; rintro r w5 ⟨rfl, hb5, ⟨j0, j1, j2, j3⟩, hB5⟩)
    | (go_at_call 128; refine (CUN.out _ hB5).mono ?_; rintro r w6 ⟨rfl, hb6, ⟨⟨k0, k1, k2, k3⟩, l0, l1, l2, l3⟩, hB6⟩))
  all_goals go_wp2_with fail
  all_goals (
    have hl5 := hb5.size
    have hb6' := (hb3.trans (hb5.mono hb3.size)).trans (hb6.mono (by have := hb3.size; omega))
    refine bodyPost_ret (results_cell_row (p := 0) (ty := 141) (by kernel_rfl) _ _ w.heap.size 141 (setW (anyP [r, t])) (0, 0) (.array 4 139) rfl ((((hB6.out.set_ 0 _).set_ 1 _).set_ 2 _).set_ 3 _) Tryz.underlying141 rfl (by kernel_rfl)) rfl ?_
    refine ⟨by rw [hP]; rfl, (((hb6'.setCell (by simp) _).setCell (by simp) _).setCell (by simp) _).setCell (by simp) _⟩)
end Go.Proofs.YthhlnpfcpgfcfaaGreatDoor
