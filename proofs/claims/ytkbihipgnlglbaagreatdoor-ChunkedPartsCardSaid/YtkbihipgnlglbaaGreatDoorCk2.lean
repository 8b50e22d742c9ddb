/-
  chunked.Check of a decoder whose fields go together.
-/
import Derived.Test.YtkbihipgnlglbaaGreatDoorCk1
namespace Go.Proofs.YtkbihipgnlglbaaGreatDoor
open Go.RowKit

/-- a decoder's cells -/
def ckV (c : Ck) : Array Value := ckA c.st c.size c.digits c.left (bs c.body) (bs c.line) c.lines c.status
/-- that strings.ContainsAny finds no CR and no LF in a line -/
def CleanCA (L : ByteArray) : Prop := ∀ w1 : World, Calls Tryz.prog 44 #[.string L, .string ⟨#[13, 10]⟩] w1 fun e w' => e = .returned (.bool false) ∧ Below w1.heap.size w1 w'
theorem indexAny_clean (l : List UInt8) (hc : ∀ b ∈ l, b ≠ 13 ∧ b ≠ 10) : Lib.indexAny l [13, 10] = -1 := by
  induction l with
  | nil => rfl
  | cons b l ih =>
    obtain ⟨h1, h2⟩ := hc b (by simp)
    have e : ([13, 10] : List UInt8).contains b = false := by simp [h1, h2]
    unfold Lib.indexAny
    rw [e, ih (fun y hy => hc y (List.mem_cons_of_mem _ hy))]
    rfl
theorem cleanCA_ascii (l : List UInt8) (hl : l.length ≤ 1000) (ha : ∀ b ∈ l, b.toNat < 128) (hc : ∀ b ∈ l, b ≠ 13 ∧ b ≠ 10) : CleanCA (bs l) := by
  intro w1
  have h := Tryz.strings_ContainsAny_laid (bs l) ⟨#[13, 10]⟩ w1 (by rw [bs_size]; omega) (by show 2 < _; omega) (fun j b hj => ha b (List.mem_of_getElem? hj)) (fun j b hj => by
    have hj' : ([13, 10] : List UInt8)[j]? = some b := hj
    have := List.mem_of_getElem? hj'
    simp only [List.mem_cons, List.not_mem_nil, or_false] at this
    rcases this with rfl | rfl <;> decide)
  refine h.mono fun e w' ⟨he, hb⟩ => ⟨?_, hb⟩
  rw [he]
  congr 2
  show Lib.containsAny l [13, 10] = false
  unfold Lib.containsAny
  rw [indexAny_clean l hc]
  rfl
theorem pFormed {c : Ck} (hc : OkC c) (hCA : CleanCA (bs c.line)) (w : World) : Calls Tryz.prog 35 #[.agg (ckV c)] w fun e w' => e = .returned (.bool true) ∧ Below w.heap.size w w' := by
  obtain ⟨h1, h2, h3, h4, h5, h6, h7, h8, h9, h10, h11, h12, h13, h14, h15⟩ := hc
  obtain ⟨st, size, digits, left, body, line, lines, status⟩ := c
  simp only [ckV] at *
  have hL0 : line = [] → (bs line).size = 0 := fun e => by rw [e]; rfl
  have hL1 : ¬ (bs line).size = 0 → lines < 32 := fun h => h14 (fun e => h (hL0 e))
  obtain rfl | rfl | rfl | rfl | rfl | rfl | rfl | rfl | rfl : st = 0 ∨ st = 1 ∨ st = 2 ∨ st = 3 ∨ st = 4 ∨ st = 5 ∨ st = 6 ∨ st = 7 ∨ st = 8 := by omega
  · obtain rfl : status = 0 := by omega
    exact formed0 size digits left (bs body) (bs line) lines w h3 h4 (by omega) (hL0 (by simpa using h7)) (by omega) hCA
  · obtain rfl : status = 0 := by omega
    exact formed1 size digits left (bs body) (bs line) lines w h3 h4 (by omega) (by omega) (hL0 (by simpa using h7)) (by omega) hCA
  · obtain rfl : status = 0 := by omega
    exact formed2 size digits left (bs body) (bs line) lines w h3 h4 (by omega) (by omega) (hL0 (by simpa using h7)) (by omega) hCA
  · obtain rfl : status = 0 := by omega
    exact formed3 size digits left (bs body) (bs line) lines w h3 h4 (by omega) (by omega) (hL0 (by simpa using h7)) (by omega) hCA
  · obtain rfl : status = 0 := by omega
    exact formed4 size digits left (bs body) (bs line) lines w h3 h4 (by omega) (by omega) (hL0 (by simpa using h7)) (by omega) hCA
  · obtain rfl : status = 0 := by omega
    exact formed5 size digits left (bs body) (bs line) lines w h3 h4 (by omega) (by omega) hL1 hCA
  · obtain rfl : status = 0 := by omega
    exact formed6 size digits left (bs body) (bs line) lines w h3 h4 (by omega) (by omega) hL1 hCA
  · obtain rfl : status = 0 := by omega
    exact formed7 size digits left (bs body) (bs line) lines w h3 h4 (by omega) (by omega) (hL0 (by simpa using h7)) hCA
  · exact formed8 size digits left status (bs body) (bs line) lines w h3 h4 (by omega) (by omega) (hL0 (by simpa using h7)) (by omega) (by omega) hCA
set_option maxRecDepth 100000 in
set_option maxHeartbeats 8000000 in
theorem pCheck {c : Ck} (hc : OkC c) (hCA : CleanCA (bs c.line)) (w : World) : Calls Tryz.prog 22 #[.agg (ckV c)] w fun e w' => e = .returned (.int .i64 0) ∧ Below w.heap.size w w' := by
  have CF := Lib.hid (fun w => pFormed hc hCA w)
  have g0 := Lib.hid ((Below.refl w.heap.size w).alloc (Nat.le_refl _) (.cells (ckV c) 36))
  have hsz : c.size < 4294967296 := by
    have h1 := hc.size
    have h2 : 16 ^ c.digits ≤ 16 ^ 8 := Nat.pow_le_pow_right (by omega) hc.digits
    omega
  obtain ⟨h1, h2, h3, h4, h5, h6, h7, h8, h9, h10, h11, h12, h13, h14, h15⟩ := hc
  have k1 : (0 : Int) ≤ (c.st : Int) := by omega
  have k2 : (c.st : Int) ≤ 8 := by omega
  have k3 : (0 : Int) ≤ (c.size : Int) := by omega
  have k4 : (c.size : Int) < 4294967296 := by omega
  have k5 : (0 : Int) ≤ (c.digits : Int) := by omega
  have k6 : (c.digits : Int) ≤ 8 := by omega
  have k7 : (0 : Int) ≤ (c.left : Int) := by omega
  have k8 : (c.left : Int) ≤ 2048 := by omega
  have k9 : (0 : Int) ≤ (c.lines : Int) := by omega
  have k10 : (c.lines : Int) ≤ 32 := by omega
  have k11 : ((bs c.body).size : Int) + (c.left : Int) ≤ 2048 := by rw [bs_size]; omega
  have k12 : ((bs c.line).size : Int) ≤ 512 := by rw [bs_size]; omega
  simp only [ckV, ckA] at CF g0 ⊢
  clear h1 h2 h3 h4 h5 h6 h7 h8 h9 h11 h12 h13 h14 h15 hsz
  obtain ⟨sx, hsx⟩ : ∃ sx : Int, (c.status : Int) = sx := ⟨_, rfl⟩
  have h10 : sx = 0 ∨ sx = 400 ∨ sx = 413 ∨ sx = 431 := by omega
  rw [hsx] at CF g0 ⊢
  clear hsx hCA
  generalize (c.st : Int) = x0 at *
  generalize (c.size : Int) = x1 at *
  generalize (c.digits : Int) = x2 at *
  generalize (c.left : Int) = x3 at *
  generalize (c.lines : Int) = x6 at *
  generalize bs c.body = x4 at *
  generalize bs c.line = x5 at *
  rcases h10 with rfl | rfl | rfl | rfl
  all_goals (
    go_enter Tryz.func22, Tryz.ntmps22
    go_wp2_with fail
    (with_reducible refine (CF.out _).mono ?_); rintro e w1 ⟨rfl, g1⟩
    go_wp2_with fail
    go_ret
    exact ⟨rfl, g0.out.trans (g1.mono g0.out.size)⟩)
end Go.Proofs.YtkbihipgnlglbaaGreatDoor
