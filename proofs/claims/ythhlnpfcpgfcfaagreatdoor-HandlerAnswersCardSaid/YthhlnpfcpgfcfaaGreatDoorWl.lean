/-
  Lines of a response, written: (*respond.writer).line.
-/
import Derived.Test.YthhlnpfcpgfcfaaGreatDoorWr
import Derived.Test.YthhlnpfcpgfcfaaGreatDoorLst
import Derived.LoopTactic
import Derived.Lib.Hide
namespace Go.Proofs.YthhlnpfcpgfcfaaGreatDoor
open Go.RowKit

theorem flat_succ (xs : List (List UInt8)) (k : Nat) (h : k < xs.length) : (xs.take (k + 1)).flatten = (xs.take k).flatten ++ xs[k] := by
  rw [List.take_succ_eq_append_getElem h, List.flatten_append]; simp only [List.flatten_cons, List.flatten_nil, List.append_nil]
theorem flat_take_le (xs : List (List UInt8)) (k : Nat) : (xs.take k).flatten.length ≤ xs.flatten.length := by
  conv => rhs; rw [← List.take_append_drop k xs]
  rw [List.flatten_append, List.length_append]; omega
/-- a list of texts in a block of its own, or none -/
def PartsAt (w : World) (A : Option Addr) (xs : List (List UInt8)) : Prop := xs = [] ∨ ∃ gp, A = some ⟨gp, 0, none⟩ ∧ w.heap[gp]? = some (.cells (strs xs).toArray 9 (0, 0))
theorem PartsAt.kept {T : TypeId} {w w' : World} {A : Option Addr} {xs : List (List UInt8)} (h : PartsAt w A xs) (hk : KeptT T w w') (hT : 9 ≠ T) : PartsAt w' A xs :=
  h.elim .inl fun ⟨gp, e, hg⟩ => .inr ⟨gp, e, hk _ _ _ _ hg hT (by decide)⟩
theorem PartsAt.at_ {w : World} {A : Option Addr} {xs : List (List UInt8)} (h : PartsAt w A xs) (k : Nat) (hk : k < xs.length) : ∃ gp, A = some ⟨gp, 0, none⟩ ∧ w.cell? ⟨gp, k, none⟩ = some (.string (bs xs[k])) := by
  rcases h with rfl | ⟨gp, e, hg⟩
  · simp at hk
  · refine ⟨gp, e, ?_⟩
    rw [Lib.cell_of_heap hg]
    simpa using strs_at xs k hk
/-- what a builder holds, and what has stayed -/
def Wrote (T : TypeId) (B b : Nat) (l : List UInt8) (w w' : World) : Prop := Lib.IsBuilder T 5 B b (Lib.byteCells l) w' ∧ Below B w w' ∧ KeptT T w w'
theorem Wrote.trans {T : TypeId} {B b : Nat} {l m : List UInt8} {u v w : World} (h : Wrote T B b l u v) (k : Wrote T B b m v w) : Wrote T B b m u w := ⟨k.1, h.2.1.trans k.2.1, h.2.2.trans k.2.2⟩
theorem Wrote.on {T : TypeId} {B b : Nat} {l : List UInt8} {w w' v : World} (h : Wrote T B b l w w') (hb : Below w'.heap.size w' v) (hB : B ≤ w.heap.size) : Wrote T B b l w v := ⟨builder_below h.1 hb, h.2.1.trans (hb.mono (by have := h.2.1.size; omega)), h.2.2.trans (KeptT.below hb)⟩
set_option maxRecDepth 100000 in
set_option maxHeartbeats 4000000 in
theorem pLine (B b : Nat) (l : List UInt8) (A : Option Addr) (n c : Nat) (xs : List (List UInt8)) (w : World) (h : Lib.IsBuilder 70 5 B b (Lib.byteCells l) w) (hn : n = xs.length) (hp : PartsAt w A xs) (hn2 : n ≤ 1000) (hlen : l.length + xs.flatten.length + 2 ≤ 1000000) (hBw : B ≤ w.heap.size) :
    Calls Tryz.prog 32 #[.pointer (some ⟨b, 0, none⟩), .slice A n c] w fun e w' => e = .returned (.tuple #[]) ∧ Wrote 70 B b (l ++ xs.flatten ++ [13, 10]) w w' := by
  subst hn
  have HP := Lib.hid hp
  have HI := Lib.hid h
  clear hp h
  go_enter Tryz.func32, Tryz.ntmps32
  go_wp2_with fail
  go_loopw [8] (fun i wr => ∃ k : Nat, i = .int .i64 k ∧ k ≤ xs.length ∧ Hid (Wrote 70 B b (l ++ (xs.take k).flatten) w wr)) (fun i _ => xs.length - (intOf i).toNat)
  case atStart => exact ⟨0, rfl, by omega, hide ⟨by simpa using HI.out, Below.refl _ _, KeptT.refl _⟩⟩
  case round =>
    obtain ⟨k, rfl, hk, hW⟩ := hrel
    rename World => wr
    have hBr : B ≤ wr.heap.size := by have := hW.out.2.1.size; omega
    by_cases hlt : k < xs.length
    · obtain ⟨gp, rfl, hc⟩ := (HP.out.kept hW.out.2.2 (by decide)).at_ k hlt
      have hf := flat_succ xs k hlt
      have hle := flat_take_le xs (k + 1)
      obtain ⟨x, hx⟩ : ∃ x, xs[k] = x := ⟨_, rfl⟩
      rw [hx] at hc hf
      rw [hf, List.length_append] at hle
      have CW := Lib.hid (writeT bty_writer B b (l ++ (xs.take k).flatten) (bs x) wr hW.out.1 (by rw [bs_size, List.length_append]; omega) hBr)
      have HF := Lib.hid hf
      clear hf hx hle
      go_wp2_with fail
      (with_reducible refine (CW.out).mono ?_); rintro e w2 ⟨⟨m, rfl⟩, hw2⟩
      go_wp2_with fail
      go_roundw
      case rel => exact ⟨k + 1, by go_num, by omega, hide (by rw [HF.out, ← List.append_assoc]; exact hW.out.trans hw2)⟩
      case measure => simp [intOf]; omega
    · obtain rfl : k = xs.length := by omega
      have hw := hW.out
      rw [List.take_length] at hw
      have CW := Lib.hid (writeT bty_writer B b (l ++ xs.flatten) ⟨#[13, 10]⟩ wr hw.1 (by rw [List.length_append]; have : (⟨#[13, 10]⟩ : ByteArray).size = 2 := rfl; omega) hBr)
      have HW := Lib.hid hw
      clear hw hW
      go_wp2_with fail
      (with_reducible refine (CW.out).mono ?_); rintro e w2 ⟨⟨m, rfl⟩, hw2⟩
      go_wp2_with fail
      first | go_end0 | (refine bodyPost_ret (results_none rfl _ _ _) rfl ?_)
      exact ⟨rfl, HW.out.trans hw2⟩
end Go.Proofs.YthhlnpfcpgfcfaaGreatDoor
