/-
  The lines of a response as the statement reads them: named, Safe.
-/
import Derived.Test.YthhlnpfcpgfcfaaGreatDoorRe3
import Derived.Test.YthhlnpfcpgfcfaaGreatDoorRs8
import Derived.LoopTactic
namespace Go.Proofs.YthhlnpfcpgfcfaaGreatDoor
open Go.RowKit

set_option maxRecDepth 100000 in
set_option maxHeartbeats 4000000 in
theorem pNamed (l : List UInt8) (h : NamedL l) (hl : l.length ≤ 1000000) (w : World) :
    Calls Tryz.prog 11 #[.string (bs l)] w fun e w' => e = .returned (.bool true) ∧ w' = w := by
  obtain ⟨n, v, rfl, hne, hb⟩ := h
  have hn1 : 1 ≤ n.length := List.length_pos_iff.2 hne
  have hz : (bs (n ++ 58 :: 32 :: v)).size = n.length + 2 + v.length := by rw [bs_size]; simp; omega
  have hlen : n.length + 2 + v.length ≤ 1000000 := by simp at hl; omega
  have g0 : ∀ k (hk : k < (bs (n ++ 58 :: 32 :: v)).size) (h2 : k < n.length), (bs (n ++ 58 :: 32 :: v))[k] = n[k] := by
    intro k hk h2
    show (n ++ 58 :: 32 :: v)[k]'(by simp; omega) = n[k]
    rw [List.getElem_append_left h2]
  have g1 : ∀ (hk : n.length < (bs (n ++ 58 :: 32 :: v)).size), (bs (n ++ 58 :: 32 :: v))[n.length] = 58 := by
    intro hk
    show (n ++ 58 :: 32 :: v)[n.length]'(by simp) = 58
    simp
  have g2 : ∀ (hk : n.length + 1 < (bs (n ++ 58 :: 32 :: v)).size), (bs (n ++ 58 :: 32 :: v))[n.length + 1] = 32 := by
    intro hk
    show (n ++ 58 :: 32 :: v)[n.length + 1]'(by simp) = 32
    rw [List.getElem_append_right (by omega)]
    simp
  generalize bs (n ++ 58 :: 32 :: v) = S at hz g0 g1 g2 ⊢
  have G0 := Lib.hid g0
  have G1 := Lib.hid g1
  have G2 := Lib.hid g2
  have HB := Lib.hid hb
  clear g0 g1 g2 hb hne hl
  go_enter Tryz.func11, Tryz.ntmps11
  go_wp2_with fail
  go_loop [3] (fun i => ∃ k : Nat, i = .int .i64 k ∧ k ≤ n.length) (fun i => n.length + 1 - (intOf i).toNat)
  case atStart => exact ⟨0, rfl, by omega⟩
  case round =>
    obtain ⟨k, rfl, hk⟩ := hrel
    by_cases hlt : k < n.length
    · have hks : k < S.size := by omega
      have hbk := HB.out n[k] (List.getElem_mem hlt)
      have hgk := G0.out k hks hlt
      obtain ⟨c, hc⟩ : ∃ c, n[k] = c := ⟨_, rfl⟩
      rw [hc] at hbk hgk
      have c58 : ((c.toNat : Int) == 58) = false := by rw [beq_eq_false_iff_ne]; intro e; exact hbk.2.2 (UInt8.toNat_inj.1 (show c.toNat = 58 by omega))
      have c32 : decide ((c.toNat : Int) ≤ 32) = false := by simp; omega
      have c126 : decide ((126 : Int) < (c.toNat : Int)) = false := by simp; omega
      clear hbk hc
      go_wp2_with fail
      go_round
      case rel => exact ⟨k + 1, by go_num, by omega⟩
      case measure => simp [intOf]; omega
    · obtain rfl : k = n.length := by omega
      have hg1 := G1.out (by omega)
      have hg2 := G2.out (by omega)
      go_wp2_with fail
      go_ret
      exact ⟨rfl, rfl⟩
theorem contains_no (l cs : List UInt8) (h : ∀ b ∈ l, cs.contains b = false) : Lib.containsAny l cs = false := by
  have : Lib.indexAny l cs = -1 := by
    induction l with
    | nil => rfl
    | cons b l ih =>
      have := ih fun x hx => h x (by simp [hx])
      rw [Lib.indexAny, h b (by simp), this]
      simp
  unfold Lib.containsAny
  rw [this]; rfl
set_option maxRecDepth 100000 in
theorem pSafe (l : List UInt8) (h : SafeL l) (hl : l.length ≤ 1000000) (w : World) :
    Calls Tryz.prog 10 #[.string (bs l)] w fun e w' => e = .returned (.bool true) ∧ Below w.heap.size w w' := by
  have hz := bs_size l
  have hno : Lib.containsAny l [13, 10, 0] = false := contains_no _ _ fun b hb => by
    have := h.2 b hb
    simp only [List.contains_cons, List.contains_nil, Bool.or_false, Bool.or_eq_false_iff, beq_eq_false_iff_ne]
    refine ⟨?_, ?_, ?_⟩ <;> (rintro rfl; revert this; decide)
  have cc := Tryz.strings_ContainsAny_laid (bs l) ⟨#[13, 10, 0]⟩ w (by omega) (by decide) (fun j b hj => by
    have := h.2 b (List.mem_of_getElem? (by rw [bs_list] at hj; exact hj)); omega) (fun j b hj => by
    have hm := List.mem_of_getElem? hj
    exact (show ∀ b ∈ ([13, 10, 0] : List UInt8), b.toNat < 128 by decide) b hm)
  rw [bs_list, show (⟨#[13, 10, 0]⟩ : ByteArray).data.toList = [13, 10, 0] from rfl, hno] at cc
  have CC := Lib.hid cc
  clear cc hno
  go_enter Tryz.func10, Tryz.ntmps10
  go_wp2_with fail
  (with_reducible refine (CC.out).mono ?_); rintro e w1 ⟨rfl, g1⟩
  go_wp2_with fail
  go_ret
  exact ⟨rfl, g1⟩
end Go.Proofs.YthhlnpfcpgfcfaaGreatDoor
