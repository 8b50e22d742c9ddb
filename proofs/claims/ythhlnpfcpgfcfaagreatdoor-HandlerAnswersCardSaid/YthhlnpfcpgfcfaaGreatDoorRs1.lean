/-
  The reasons of codes: respond.Reason, by the library's binary search.
-/
import Derived.Test.YthhlnpfcpgfcfaaGreatDoorShelf
import Derived.Test.YthhlnpfcpgfcfaaGreatDoorRe1
import Derived.Test.YthhlnpfcpgfcfaaGreatDoorShelfN
import Derived.Test.YthhlnpfcpgfcfaaGreatDoorBq
import Derived.Shelf.SlSorted.Search
import Derived.Outline
import Derived.Lib.Builder
import Derived.KernelRfl
import Derived.RegionTactic
import Derived.Deep.QuietTactic
import Derived.BigQuiet
namespace Go.Proofs.YthhlnpfcpgfcfaaGreatDoor
open Go.RowKit Go.Sort

def codeN (i : Nat) : Nat := (codesR.getD i (0, [])).1
def codeS (i : Nat) : List UInt8 := (codesR.getD i (0, [])).2
def codesC : Array Value := ((List.range 15).flatMap fun i => [Value.int .i64 (codeN i : Nat), Value.string (bs (codeS i))]).toArray
theorem codesC_at : ∀ i, i < 15 → codesC[i * 2]? = some (.int .i64 (codeN i : Nat)) ∧ codesC[i * 2 + 1]? = some (.string (bs (codeS i)))
  | 0, _ | 1, _ | 2, _ | 3, _ | 4, _ | 5, _ | 6, _ | 7, _ | 8, _ | 9, _ | 10, _ | 11, _ | 12, _ | 13, _ | 14, _ => ⟨by kernel_rfl, by kernel_rfl⟩
  | n + 15, h => absurd h (by omega)
/-- the program's table of codes -/
def Codes (w : World) : Prop := ∃ t fr, w.heap[(0 : Nat)]? = some (.cells codesC t fr)
theorem Codes.c0 {w : World} (h : Codes w) (i : Nat) (hi : i < 15) : w.cell? ⟨0, i * 2, none⟩ = some (.int .i64 (codeN i)) := by
  obtain ⟨t, fr, h⟩ := h
  rw [Lib.cell_of_heap h]; exact (codesC_at i hi).1
theorem Codes.c1 {w : World} (h : Codes w) (i : Nat) (hi : i < 15) : w.cell? ⟨0, i * 2 + 1, none⟩ = some (.string (bs (codeS i))) := by
  obtain ⟨t, fr, h⟩ := h
  rw [Lib.cell_of_heap h]; exact (codesC_at i hi).2
theorem Codes.lt {w : World} (h : Codes w) : 0 < w.heap.size := by
  have := World.block_lt_of_cell? _ _ (h.c0 0 (by omega))
  exact this
theorem Codes.below {w w' : World} (h : Codes w) (hb : Below w.heap.size w w') : Codes w' := by
  obtain ⟨t, fr, hh⟩ := id h
  exact ⟨t, fr, (hb.block _ h.lt).trans hh⟩
theorem codes_idx (w : World) : ∀ i, i < 15 → (Instr.index 106 (.agg codesC) (.int .i64 (i : Nat))).run Tryz.prog w = .ok (.agg #[.int .i64 (codeN i : Nat), .string (bs (codeS i))]) w
  | 0, _ | 1, _ | 2, _ | 3, _ | 4, _ | 5, _ | 6, _ | 7, _ | 8, _ | 9, _ | 10, _ | 11, _ | 12, _ | 13, _ | 14, _ => by kernel_rfl
  | n + 15, h => absurd h (by omega)
theorem codes_size : (Tryz.prog.info? 106).map (·.size) = some codesC.size := by kernel_rfl
theorem codes_mono : ∀ a b : Fin 15, a.val ≤ b.val → codeN a.val ≤ codeN b.val := by decide +kernel
theorem codes_uniq : ∀ a b : Fin 15, codeN a.val = codeN b.val → a.val = b.val := by decide +kernel
theorem reason_at : ∀ a : Fin 15, reasonR (codeN a.val : Nat) = some (codeS a.val) := by decide +kernel
theorem reason_no {c : Int} (h : reasonR c = none) (i : Nat) (hi : i < 15) : (codeN i : Int) ≠ c := by
  rintro rfl
  rw [reason_at ⟨i, hi⟩] at h
  cases h
theorem codes_at {x : Nat × List UInt8} (h : x ∈ codesR) : ∃ i, i < 15 ∧ codeN i = x.1 ∧ codeS i = x.2 := by
  obtain ⟨i, hi, e⟩ := List.getElem_of_mem h
  have hl : codesR.length = 15 := by decide
  have hd : codesR.getD i (0, []) = x := by rw [List.getD_eq_getElem?_getD, List.getElem?_eq_getElem hi, e]; rfl
  exact ⟨i, by omega, by unfold codeN; rw [hd], by unfold codeS; rw [hd]⟩
/-- how many codes are below one -/
theorem count_at (i : Nat) (hi : i < 15) : (List.range 15).countP (fun k => !decide (codeN i ≤ codeN k)) = i := by
  have := (show ∀ i : Fin 15, (List.range 15).countP (fun k => !decide (codeN i.val ≤ codeN k)) = i.val by decide +kernel) ⟨i, hi⟩
  exact this
set_option maxRecDepth 100000 in
theorem Reason1 (i : Nat) (hi : i < 15) (c : Int) (b : Nat) (W : World) (hc : Codes W) (hb : W.cell? ⟨b, 0, none⟩ = some (.int .i64 c)) :
    Calls Tryz.prog 64 #[.int .i64 (i : Int), .pointer (some ⟨b, 0, none⟩)] W fun e w' => e = .returned (.bool (decide (c ≤ (codeN i : Int)))) ∧ ∃ q, w' = W.drewN q := by
  have h0 := hc.c0 i hi
  obtain ⟨x, hx⟩ : ∃ x : Int, (codeN i : Int) = x := ⟨_, rfl⟩
  rw [hx] at h0 ⊢
  have hi0 : (0 : Int) ≤ (i : Int) := by omega
  have hi1 : (i : Int) < 15 := by omega
  clear hc hx
  go_enter Tryz.func64, Tryz.ntmps64
  go_wp2_with fail
  go_quiet (fail)
  all_goals go_wp2_with fail
  all_goals go_ret
  all_goals exact ⟨rfl, _, rfl⟩
def errR (c : Int) : Nat := if reasonR c = none then 10 else 0
set_option maxRecDepth 100000 in
set_option maxHeartbeats 1000000 in
theorem Reason_any (c : Int) (w : World) (hc : Codes w) :
    Calls Tryz.prog 31 #[.int .i64 c] w fun e w' => e = .returned (.tuple #[.string (bs ((reasonR c).getD [])), .int .i64 (errR c : Nat)]) ∧ Below w.heap.size w w' := by
  have hcl : ∀ (m : Nat) (os : Array Obj) (i : Nat), i < 15 → Calls Tryz.prog 64 (#[.int .i64 (i : Int)] ++ #[.pointer (some ⟨w.heap.size, 0, none⟩)]) (grow ((w.alloc (.cells #[.int .i64 c] 3)).drewN m) os) fun e w' => e = .returned (.bool (decide (c ≤ (codeN i : Int)))) ∧ ∃ q os', w' = grow ((grow ((w.alloc (.cells #[.int .i64 c] 3)).drewN m) os).drewN q) os' := by
    intro m os i hi
    have hlt := hc.lt
    have hcW : Codes (w.alloc (.cells #[.int .i64 c] 3)) := hc.below ((Below.refl _ _).alloc (Nat.le_refl _) _)
    have hcW' : Codes (grow ((w.alloc (.cells #[.int .i64 c] 3)).drewN m) os) := hcW.below (below_grown_sl _ _ m os (Nat.le_refl _))
    have hb : (grow ((w.alloc (.cells #[.int .i64 c] 3)).drewN m) os).cell? ⟨w.heap.size, 0, none⟩ = some (.int .i64 c) := cell_grown (by simp) (cell_new_sl w _ _) m os
    refine (Reason1 i hi c w.heap.size _ hcW' hb).mono fun e w' ⟨he, q, hq⟩ => ⟨he, q, #[], by rw [hq, grow_empty]⟩
  have cs : Calls Tryz.prog 63 #[.int .i64 15, .func (.func 64) #[] #[.pointer (some ⟨w.heap.size, 0, none⟩)]] (w.alloc (.cells #[.int .i64 c] 3)) fun e w' => e = .returned (.int .i64 ((List.range 15).countP (fun i => !decide (c ≤ (codeN i : Int))) : Nat)) ∧ Below (w.alloc (.cells #[.int .i64 c] 3)).heap.size (w.alloc (.cells #[.int .i64 c] 3)) w' :=
    (Any.sort_Search (P := Tryz.prog) Tryz.search 64 #[.pointer (some ⟨w.heap.size, 0, none⟩)] 15 (fun i => decide (c ≤ (codeN i : Int))) (w.alloc (.cells #[.int .i64 c] 3))
    (enters_of Tryz.func64 (by kernel_rfl) rfl) (by omega) hcl (fun a b hab hb h => by
      have := codes_mono ⟨a, by omega⟩ ⟨b, hb⟩ hab
      simp only [decide_eq_true_eq] at h ⊢
      simp only at this
      omega)).mono fun e w' ⟨he, q, os, hq⟩ => ⟨he, by rw [hq]; exact below_grown_sl _ _ q os (Nat.le_refl _)⟩
  obtain ⟨cnt, hcnt⟩ : ∃ cnt, (List.range 15).countP (fun i => !decide (c ≤ (codeN i : Int))) = cnt := ⟨_, rfl⟩
  rw [hcnt] at cs
  have CS := Lib.hid cs
  clear hcl cs
  cases hr : reasonR c with
  | some r =>
    obtain ⟨x, hx, hxc⟩ := reason_mem (c := c) (by rw [hr]; simp)
    obtain ⟨i, hi, e1, e2⟩ := codes_at hx
    rw [← e1] at hxc
    have hrs := reason_at ⟨i, hi⟩
    simp only at hrs
    rw [hxc, hr] at hrs
    injection hrs with hrs
    obtain rfl : i = cnt := by
      rw [← hcnt, ← hxc]
      simpa using (count_at i hi).symm
    have h0 := hc.c0 i hi
    have h1 := hc.c1 i hi
    rw [hxc] at h0
    rw [← hrs] at h1
    have eR : errR c = 0 := by unfold errR; rw [hr]; simp
    rw [eR]
    have hgd : (some r : Option (List UInt8)).getD [] = r := rfl
    rw [hgd]
    have hlt := hc.lt
    have hi0 : (0 : Int) ≤ (i : Int) := by omega
    have hi1 : (i : Int) < 15 := by omega
    have hne : ((i : Int) == 15) = false := by rw [beq_eq_false_iff_ne]; omega
    have hcc : (c != c) = false := by simp
    have HC := Lib.hid (And.intro h0 h1)
    have HW := Lib.hid hlt
    clear hc h0 h1 hlt hr hcnt hxc hrs e1 e2 hx eR hgd
    go_enter Tryz.func31, Tryz.ntmps31
    go_wp2_with fail
    (with_reducible refine (CS.out).mono ?_); rintro e w2 ⟨rfl, hb⟩
    have hb0 : Below w.heap.size w w2 := ((Below.refl w.heap.size w).alloc (Nat.le_refl _) _).trans (hb.mono (by simp))
    have h0 := (hb0.cell (p := ⟨0, i * 2, none⟩) HW.out).trans HC.out.1
    have h1 := (hb0.cell (p := ⟨0, i * 2 + 1, none⟩) HW.out).trans HC.out.2
    have hx := (hb.cell (p := ⟨w.heap.size, 0, none⟩) (by simp)).trans (cell_new_sl w (.int .i64 c) 3)
    have HB := Lib.hid hb0
    clear hb hb0 CS
    go_wp2_with fail
    go_quiet (fail)
    all_goals go_wp2_with fail
    all_goals go_ret2
    all_goals exact ⟨rfl, below_drewN HB.out _⟩
  | none =>
    have hle : cnt ≤ 15 := by
      rw [← hcnt]
      have := List.countP_le_length (p := fun i => !decide (c ≤ (codeN i : Int))) (l := List.range 15)
      simpa using this
    have eR : errR c = 10 := by unfold errR; rw [hr]; simp
    rw [eR]
    have hgd : (none : Option (List UInt8)).getD [] = [] := rfl
    rw [hgd]
    have hlt := hc.lt
    have HW := Lib.hid hlt
    have hi0 : (0 : Int) ≤ (cnt : Int) := by omega
    by_cases h15 : cnt = 15
    · subst h15
      clear hc hr hcnt eR hgd hlt
      go_enter Tryz.func31, Tryz.ntmps31
      go_wp2_with fail
      (with_reducible refine (CS.out).mono ?_); rintro e w2 ⟨rfl, hb⟩
      have hb0 : Below w.heap.size w w2 := ((Below.refl w.heap.size w).alloc (Nat.le_refl _) _).trans (hb.mono (by simp))
      have HB := Lib.hid hb0
      clear hb hb0 CS
      go_wp2_with fail
      go_quiet (fail)
      all_goals go_wp2_with fail
      all_goals go_ret2
      all_goals exact ⟨rfl, below_drewN HB.out _⟩
    · have hi1 : (cnt : Int) < 15 := by omega
      have h0 := hc.c0 cnt (by omega)
      have hne := reason_no hr cnt (by omega)
      obtain ⟨x, hx⟩ : ∃ x : Int, (codeN cnt : Int) = x := ⟨_, rfl⟩
      rw [hx] at h0 hne
      have hxc : (x != c) = true := by simpa using hne
      have he : ((cnt : Int) == 15) = false := by rw [beq_eq_false_iff_ne]; omega
      have HC := Lib.hid h0
      clear hc hr hcnt eR hgd hlt h0 hne hx h15 hle
      go_enter Tryz.func31, Tryz.ntmps31
      go_wp2_with fail
      (with_reducible refine (CS.out).mono ?_); rintro e w2 ⟨rfl, hb⟩
      have hb0 : Below w.heap.size w w2 := ((Below.refl w.heap.size w).alloc (Nat.le_refl _) _).trans (hb.mono (by simp))
      have h0 := (hb0.cell (p := ⟨0, cnt * 2, none⟩) HW.out).trans HC.out
      have hxw := (hb.cell (p := ⟨w.heap.size, 0, none⟩) (by simp)).trans (cell_new_sl w (.int .i64 c) 3)
      have HB := Lib.hid hb0
      clear hb hb0 CS
      go_wp2_with fail
      go_quiet (fail)
      all_goals go_wp2_with fail
      all_goals go_ret2
      all_goals exact ⟨rfl, below_drewN HB.out _⟩
end Go.Proofs.YthhlnpfcpgfcfaaGreatDoor
