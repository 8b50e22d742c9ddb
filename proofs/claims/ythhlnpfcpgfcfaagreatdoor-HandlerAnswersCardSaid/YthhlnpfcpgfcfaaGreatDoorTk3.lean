/-
  The contracts of package token on the case of letters: Lower, Same.
-/
import Derived.Test.YthhlnpfcpgfcfaaGreatDoorTk2
namespace Go.Proofs.YthhlnpfcpgfcfaaGreatDoor
open Go.RowKit

def lowB (b : UInt8) : UInt8 := if 65 ≤ b.toNat ∧ b.toNat ≤ 90 then b + 32 else b
def lowL (l : List UInt8) : List UInt8 := l.map lowB
def low (s : ByteArray) : ByteArray := ⟨(lowL s.data.toList).toArray⟩
theorem lowB_up {b : UInt8} (h : 65 ≤ b.toNat ∧ b.toNat ≤ 90) : (lowB b).toNat = b.toNat + 32 := by
  rw [lowB, if_pos h, UInt8.toNat_add]
  show (b.toNat + 32) % 256 = _
  omega
theorem lowB_no {b : UInt8} (h : ¬ (65 ≤ b.toNat ∧ b.toNat ≤ 90)) : lowB b = b := if_neg h
theorem low_list (s : ByteArray) : (low s).data.toList = lowL s.data.toList := rfl
theorem low_size (s : ByteArray) : (low s).size = s.size := by rw [← size_l, low_list, lowL, List.length_map, size_l]

/-- the bytes while they are made small: the first k are done -/
def LowK (w : World) (g : Nat) (s : ByteArray) (k : Nat) : Prop := ∀ j (_ : j < s.size), w.cell? ⟨g, j, none⟩ = some (.int .u8 ((if j < k then lowB s[j] else s[j]).toNat : Int))
theorem LowK.step {w : World} {g : Nat} {s : ByteArray} {k : Nat} (h : LowK w g s k) (hk : k < s.size) (v : Int) (hv : v = (lowB s[k]).toNat) : LowK (w.setCell ⟨g, k, none⟩ (.int .u8 v)) g s (k + 1) := by
  intro j hj
  by_cases e : j = k
  · subst e
    rw [World.cell?_setCell_same _ _ _ (h j hj), if_pos (by omega), hv]
  · rw [World.cell?_setCell_other _ _ _ _ (by intro hc; injection hc with _ hc; exact e hc.symm), h j hj]
    by_cases hjk : j < k
    · rw [if_pos hjk, if_pos (by omega)]
    · rw [if_neg hjk, if_neg (by omega)]
theorem LowK.skip {w : World} {g : Nat} {s : ByteArray} {k : Nat} (h : LowK w g s k) (hk : k < s.size) (hv : lowB s[k] = s[k]) : LowK w g s (k + 1) := by
  intro j hj
  rw [h j hj]
  by_cases e : j = k
  · subst e; rw [if_neg (by omega), if_pos (by omega), hv]
  · by_cases hjk : j < k
    · rw [if_pos hjk, if_pos (by omega)]
    · rw [if_neg hjk, if_neg (by omega)]

set_option maxRecDepth 100000 in
set_option maxHeartbeats 4000000 in
theorem TLower_any (s : ByteArray) (w : World) (hs : s.size ≤ 9223372036854775807) :
    Calls Tryz.prog 129 #[.string s] w fun e w' => e = .returned (.string (low s)) ∧ Below w.heap.size w w' := by
  obtain ⟨cap, w1, hr, hb1, hsz, hbi, hfz⟩ := bytes_of_string (P := Tryz.prog) 9 66 5 Tryz.underlying9 Tryz.underlying66 Tryz.underlying5 w s
  have HBI := Lib.hid hbi
  have HFZ := Lib.hid hfz
  clear hbi hfz
  go_enter Tryz.func129, Tryz.ntmps129
  go_wp2_with fail
  go_loopw [4, 5, 10] (fun _ _ i wr => ∃ k : Nat, i = .int .i64 k ∧ k ≤ s.size ∧ Hid (LowK wr w.heap.size s k) ∧ Hid (∀ j, j < s.size → wr.frozen? ⟨w.heap.size, j, none⟩ = false) ∧ Below w.heap.size w wr) (fun _ _ i _ => s.size - (intOf i).toNat)
  case atStart => exact ⟨0, rfl, by omega, hide (fun j hj => by rw [if_neg (by omega)]; exact HBI.out j hj), hide HFZ.out, hb1⟩
  case round =>
    obtain ⟨k, rfl, hk, HL, HF, hb⟩ := hrel
    rename World => W0
    by_cases hlt : k < s.size
    · obtain ⟨c, hc⟩ : ∃ c, s[k] = c := ⟨_, rfl⟩
      have hcell : W0.cell? ⟨w.heap.size, k, none⟩ = some (.int .u8 c.toNat) := by rw [HL.out k hlt, if_neg (by omega), hc]
      have hfz := HF.out k hlt
      obtain ⟨n, hn⟩ : ∃ n, c.toNat = n := ⟨_, rfl⟩
      have hn8 : n < 256 := by rw [← hn]; exact c.toNat_lt
      rw [hn] at hcell
      by_cases hu : 65 ≤ n ∧ n ≤ 90
      · obtain ⟨h1, h2⟩ := hu
        go_wp2_with fail
        go_roundw
        case rel =>
          refine ⟨k + 1, by go_num, by omega, hide (HL.out.step hlt _ ?_), hide fun j hj => by rw [World.frozen?_setCell]; exact HF.out j hj, hb.setCell (by simp) _⟩
          rw [hc, lowB_up (by omega), hn]; simp
        case measure => simp [intOf]; omega
      · have hno : lowB s[k] = s[k] := lowB_no (by rw [hc, hn]; exact hu)
        have rest : 65 ≤ n ∧ 90 < n ∨ n < 65 := by omega
        rcases rest with ⟨h1, h2⟩ | h1
        all_goals (
          try have hd2 : decide ((n : Int) ≤ 90) = false := by simp; omega
          try have hd1 : decide ((65 : Int) ≤ (n : Int)) = false := by simp; omega
          go_wp2_with fail
          go_roundw
          case rel => exact ⟨k + 1, by go_num, by omega, hide (HL.out.skip hlt hno), HF, hb⟩
          case measure => simp [intOf]; omega)
    · have hkl : k = s.size := by omega
      subst hkl
      have hd : decide ((s.size : Int) < (s.size : Int)) = false := by simp
      have hll : (lowL s.data.toList).length = s.size := by rw [lowL, List.length_map, size_l]
      have hcv := run_convert_bytes_back (P := Tryz.prog) W0 66 9 5 ⟨w.heap.size, 0, none⟩ cap (lowL s.data.toList) Tryz.underlying66 Tryz.underlying5 Tryz.underlying9 (fun j hj => by
        rw [hll] at hj
        rw [Addr.add_lit, Nat.zero_add, HL.out j hj, if_pos hj]
        simp only [lowL, List.getElem_map]
        rfl)
      rw [hll] at hcv
      go_wp2_with fail
      go_ret
      exact ⟨rfl, hb⟩
theorem TSame_any (a b : ByteArray) (w : World) (ha : a.size ≤ 9223372036854775807) (hb : b.size ≤ 9223372036854775807) :
    Calls Tryz.prog 102 #[.string a, .string b] w fun e w' => e = .returned (.bool (lowL a.data.toList == lowL b.data.toList)) ∧ Below w.heap.size w w' := by
  have cA := fun w => TLower_any a w ha
  have cB := fun w => TLower_any b w hb
  have CA := Lib.hid cA
  have CB := Lib.hid cB
  clear cA cB
  go_enter Tryz.func102, Tryz.ntmps102
  go_wp2_with fail
  (with_reducible refine (CA.out _).mono ?_); rintro e w1 ⟨rfl, hb1⟩
  go_wp2_with fail
  (with_reducible refine (CB.out _).mono ?_); rintro e w2 ⟨rfl, hb2⟩
  go_wp2_with fail
  go_ret
  refine ⟨ret_bool ?_, hb1.trans (hb2.mono hb1.size)⟩
  rw [Lib.toList_data, Lib.toList_data]; rfl
end Go.Proofs.YthhlnpfcpgfcfaaGreatDoor
