/-
  The reader of responses: the line that begins here, and passing over it.
-/
import Derived.Test.YthhlnpfcpgfcfaaGreatDoorRs2
import Derived.Test.YthhlnpfcpgfcfaaGreatDoorRe3
import Derived.Lib.BufferOwn
namespace Go.Proofs.YthhlnpfcpgfcfaaGreatDoor
open Go.RowKit

theorem xb (l : List UInt8) (a b : Nat) : (bs l).extract a b = bs ((l.take b).drop a) := by
  apply ba_ext
  show ((bs l).extract a b).data.toList = (l.take b).drop a
  rw [extract_list]; rfl
theorem xb_end (l : List UInt8) (a : Nat) : (bs l).extract a (bs l).size = bs (l.drop a) := by
  rw [xb, bs_size, List.take_length]
/-- the library's variable holds some number -/
def MaxL (w : World) : Prop := ∃ m : Int, w.cell? ⟨4, 0, none⟩ = some (.int .i64 m)
theorem MaxL.below {w w' : World} (h : MaxL w) (hb : Below w.heap.size w w') : MaxL w' := by
  obtain ⟨m, hm⟩ := h
  exact ⟨m, (hb.cell (p := ⟨_, 0, none⟩) (World.block_lt_of_cell? _ _ hm)).trans hm⟩
theorem Index_crlf (l : List UInt8) (hl : l.length ≤ 1000000) (w : World) (h : MaxL w) :
    Calls Tryz.prog 109 #[.string (bs l), .string ⟨#[13, 10]⟩] w fun e w' => e = .returned (.int .i64 (Lib.index l [13, 10])) ∧ w' = w := by
  obtain ⟨m, hm⟩ := h
  exact Tryz.strings_Index (bs l) ⟨#[13, 10]⟩ m w (by rw [bs_size]; omega) hm
/-- the cells of a reader -/
def rC (s : List UInt8) (a : Nat) (code : Int) (v : Value) (body : ByteArray) (close head : Bool) : Array Value := #[.string (bs s), .int .i64 (a : Int), .int .i64 code, v, .string body, .bool close, .bool head]
set_option maxRecDepth 100000 in
set_option maxHeartbeats 2000000 in
theorem pNext (s : List UInt8) (a g : Nat) (w : World) (hs : s.length ≤ 1000000) (ha : a ≤ s.length) (c0 : w.cell? ⟨g, 0, none⟩ = some (.string (bs s))) (c1 : w.cell? ⟨g, 1, none⟩ = some (.int .i64 (a : Int))) (hm : MaxL w) :
    Calls Tryz.prog 84 #[.pointer (some ⟨g, 0, none⟩)] w fun e w' => e = .returned (match lineP (s.drop a) with | none => .tuple #[.string ⟨#[]⟩, .bool false] | some x => .tuple #[.string (bs x.1), .bool true]) ∧ Below w.heap.size w w' := by
  have z := bs_size s
  have i0 : (0 : Int) ≤ (a : Int) := by omega
  have i1 : (a : Int) ≤ (s.length : Int) := by omega
  have hx := xb_end s a
  rw [z] at hx
  have cI : ∀ n, Calls Tryz.prog 109 #[.string (bs (s.drop a)), .string ⟨#[13, 10]⟩] (w.drewN n) fun e w' => e = .returned (.int .i64 (Lib.index (s.drop a) [13, 10])) ∧ w' = w.drewN n := fun n => Index_crlf _ (by rw [List.length_drop]; omega) _ hm
  rcases lineP_cases (s.drop a) with ⟨h1, h2⟩ | ⟨l, r, h1, h2, h3⟩
  · rw [h1]
    rw [h2] at cI
    have CI := Lib.hid cI
    clear cI h1 h2 hm
    go_enter Tryz.func84, Tryz.ntmps84
    go_wp2_with fail
    go_quiet (first | (go_at_call 109; exact Calls.quiet_of_same (CI.out _)))
    all_goals go_wp2_with fail
    all_goals go_ret2
    all_goals exact ⟨rfl, below_drewN (Below.refl _ _) _⟩
  · rw [h1]
    rw [h2] at cI
    have CI := Lib.hid cI
    have hlen : a + l.length + 2 ≤ s.length := by
      have := congrArg List.length h3
      rw [List.length_drop] at this
      simp only [List.length_append, List.length_cons] at this
      omega
    have hx2 : (bs s).extract a (a + l.length) = bs l := by
      rw [xb]
      congr 1
      have : (s.take (a + l.length)).drop a = (s.drop a).take l.length := by rw [List.drop_take]; congr 1; omega
      rw [this, h3, List.take_left]
    obtain ⟨k, hk⟩ : ∃ k, l.length = k := ⟨_, rfl⟩
    rw [hk] at CI hx2 hlen
    have w1 : IntKind.i64.wrap ((a : Int) + (k : Int)) = ((a + k : Nat) : Int) := by rw [IntKind.wrap_i64]; omega
    have i2 : ((a + k : Nat) : Int) ≤ (s.length : Int) := by omega
    have i3 : (a : Int) ≤ ((a + k : Nat) : Int) := by omega
    clear cI h1 h2 h3 hm hk
    go_enter Tryz.func84, Tryz.ntmps84
    go_wp2_with fail
    go_quiet (first | (go_at_call 109; exact Calls.quiet_of_same (CI.out _)))
    all_goals go_wp2_with fail
    go_quiet (fail)
    all_goals go_wp2_with fail
    all_goals go_ret2
    all_goals exact ⟨congrArg (fun x => Ending.returned (.tuple #[.string x, .bool true])) hx2, below_drewN (below_drewN (Below.refl _ _) _) _⟩
set_option maxRecDepth 100000 in
set_option maxHeartbeats 2000000 in
theorem pPass (s : List UInt8) (a : Nat) (code : Int) (v : Value) (body : ByteArray) (close head : Bool) (l : List UInt8) (g : Nat) (w : World) (hs : s.length ≤ 1000000) (ha : a + l.length + 2 ≤ s.length) (hB : Blk w g 101 (rC s a code v body close head)) :
    Calls Tryz.prog 85 #[.pointer (some ⟨g, 0, none⟩), .string (bs l)] w fun e w' => e = .returned (.tuple #[]) ∧ Blk w' g 101 (rC s (a + l.length + 2) code v body close head) ∧ w.grownBy w' (some g) := by
  have z := bs_size l
  have c1 : w.cell? ⟨g, 1, none⟩ = some (.int .i64 (a : Int)) := hB.cell 1
  have f1 := hB.frozen 1
  have HB := Lib.hid hB
  clear hB
  go_enter Tryz.func85, Tryz.ntmps85
  go_wp2_with fail
  first | go_end0 | (refine bodyPost_ret (results_none rfl _ _ _) rfl ?_)
  have hb := HB.out.set_ 1 (.int .i64 ((a + l.length + 2 : Nat) : Int))
  have e1 : (rC s a code v body close head).setIfInBounds 1 (.int .i64 ((a + l.length + 2 : Nat) : Int)) = rC s (a + l.length + 2) code v body close head := by simp [rC]
  rw [e1] at hb
  have e2 : (a : Int) + ((l.length : Int) + 2) = ((a + l.length + 2 : Nat) : Int) := by omega
  rw [e2]
  exact ⟨rfl, hb, Lib.grownBy_setB (World.grownBy.refl w (some g)) 1 _⟩
end Go.Proofs.YthhlnpfcpgfcfaaGreatDoor
