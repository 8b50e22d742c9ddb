/-
  The contracts of waypostkit on lists of texts: SameTexts.
-/
import Derived.Test.YthhlnpfcpgfcfaaGreatDoorRd
import Derived.BigQuiet
import Derived.Deep.QuietTactic
namespace Go.Proofs.YthhlnpfcpgfcfaaGreatDoor
open Go.RowKit

theorem ne_texts {x y : List UInt8} (h : x ≠ y) : ((bs x).toList == (bs y).toList) = false := by
  rw [Lib.toList_data, Lib.toList_data, bs_list, bs_list, beq_eq_false_iff_ne]; exact h
theorem eq_texts {x y : List UInt8} (h : x = y) : ((bs x).toList == (bs y).toList) = true := by
  subst h; simp
theorem beq_len {α : Type} [BEq α] [LawfulBEq α] {x y : List α} (h : x.length ≠ y.length) : (x == y) = false := by
  rw [beq_eq_false_iff_ne]; intro e; exact h (by rw [e])
theorem take_succ_eq {α : Type} {x y : List α} {k : Nat} (hx : k < x.length) (hy : k < y.length) (h : x.take k = y.take k) (e : x[k] = y[k]) : x.take (k + 1) = y.take (k + 1) := by
  rw [List.take_succ_eq_append_getElem hx, List.take_succ_eq_append_getElem hy, h, e]

/-- a list literal of texts, in its new block -/
theorem reads_new (w : World) (t : TypeId) (xs : List (List UInt8)) (cs : Array Value) (h : cs.toList = strs xs) : Reads (w.alloc (.cells cs t)) (w.alloc (.cells cs t)).heap.size 1 (some ⟨w.heap.size, 0, none⟩) xs.length (strs xs) := by
  refine ⟨by rw [strs_len, Nat.mul_one], fun _ => ⟨_, rfl, by simp, fun j u hu => ?_⟩⟩
  rw [Addr.add_lit, Nat.zero_add, (Blk.new w t cs).cell j]
  rw [← h] at hu
  simpa using hu
set_option maxRecDepth 100000 in
set_option maxHeartbeats 4000000 in
theorem SameTexts_any (A B : Option Addr) (n m c d : Nat) (xs ys : List (List UInt8)) (w : World) (hr : Reads w w.heap.size 1 A n (strs xs)) (ht : Reads w w.heap.size 1 B m (strs ys)) (hn : n ≤ 1000000) (hm : m ≤ 1000000) :
    Calls Tryz.prog 22 #[.slice A n c, .slice B m d] w fun e w' => e = .returned (.bool (xs == ys)) ∧ ∃ k, w' = w.drewN k := by
  obtain rfl := hr.len
  obtain rfl := ht.len
  obtain ⟨R, hR⟩ : ∃ R, (xs == ys) = R := ⟨_, rfl⟩
  rw [hR]
  by_cases hl : xs.length = ys.length
  · have hd : ((xs.length : Int) != (ys.length : Int)) = false := by rw [hl]; simp
    have HX := Lib.hid hr
    have HY := Lib.hid ht
    have HR := Lib.hid hR
    have HL := Lib.hid hl
    clear hr ht hR hl
    go_enter Tryz.func22, Tryz.ntmps22
    go_wp2_with fail
    go_loopw [5] (fun i wr => ∃ k j : Nat, i = .int .i64 k ∧ k ≤ xs.length ∧ Hid (xs.take k = ys.take k) ∧ wr = w.drewN j) (fun i _ => xs.length - (intOf i).toNat)
    case atStart => exact ⟨0, 0, rfl, by omega, rfl, rfl⟩
    case round =>
      obtain ⟨k, j, rfl, hk, HT, rfl⟩ := hrel
      by_cases hlt : k < xs.length
      · have hlt2 : k < ys.length := by rw [← HL.out]; exact hlt
        obtain ⟨b, o, rfl, _, c1⟩ := HX.out.text k hlt
        obtain ⟨b', o', rfl, _, c2⟩ := HY.out.text k hlt2
        obtain ⟨x, hx⟩ : ∃ x, xs[k] = x := ⟨_, rfl⟩
        obtain ⟨y, hy⟩ : ∃ y, ys[k] = y := ⟨_, rfl⟩
        rw [hx] at c1
        rw [hy] at c2
        have i0 : (0 : Int) ≤ (k : Int) := by omega
        have i1 : (k : Int) < (xs.length : Int) := by omega
        have i2 : (k : Int) < (ys.length : Int) := by omega
        have HXY := Lib.hid (And.intro hx hy)
        clear hx hy hd
        by_cases he : x = y
        · have hq := eq_texts he
          have HN : Hid (xs.take (k + 1) = ys.take (k + 1)) := take_succ_eq hlt hlt2 HT.out (by rw [HXY.out.1, HXY.out.2, he])
          clear he
          go_wp2_with fail
          go_quiet (fail)
          go_wp2_with fail
          exact ⟨⟨k + 1, _, by go_num, by omega, HN, rfl⟩, by simp [intOf]; omega⟩
        · have hq := ne_texts he
          have hres : R = false := by
            rw [← HR.out, beq_eq_false_iff_ne]
            intro e
            subst e
            exact he (HXY.out.1.symm.trans HXY.out.2)
          subst hres
          clear he
          go_wp2_with fail
          go_quiet (fail)
          go_wp2_with fail
          go_ret
          exact ⟨rfl, _, World.drewN_drewN _ _ _⟩
      · have hkl : k = xs.length := by omega
        subst hkl
        have hd : decide ((xs.length : Int) < (xs.length : Int)) = false := by simp
        have hres : R = true := by
          rw [← HR.out, beq_iff_eq]
          have := HT.out
          rw [List.take_length, HL.out, List.take_length] at this
          exact this
        subst hres
        go_wp2_with fail
        go_ret
        exact ⟨rfl, _, rfl⟩
  · have hd : ((xs.length : Int) != (ys.length : Int)) = true := by rw [bne_iff_ne]; omega
    rw [beq_len hl] at hR
    subst hR
    clear hr ht hl
    go_enter Tryz.func22, Tryz.ntmps22
    go_wp2_with fail
    go_ret
    exact ⟨rfl, 0, rfl⟩
end Go.Proofs.YthhlnpfcpgfcfaaGreatDoor
