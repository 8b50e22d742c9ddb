/-
  The reference of tokens (waypostref05): inner, Value, Lower, Same.
-/
import Derived.Test.YtepemdmjbfoiaaaDoorTr2
namespace Go.Proofs.YtepemdmjbfoiaaaDoor
open Go.RowKit

def valB (b : UInt8) : Bool := valP b.toNat
theorem val_iff (n : Nat) : valP n = true ↔ n = 32 ∨ n = 9 ∨ 33 ≤ n ∧ n ≤ 126 ∨ 128 ≤ n ∧ n ≤ 255 := by
  simp only [valP, anyP, inR, valR, inB, valO, List.any_cons, List.any_nil, Bool.or_false, Bool.or_eq_true, decide_eq_true_eq]
  have h1 : (32 : UInt8).toNat = 32 := rfl
  have h2 : (9 : UInt8).toNat = 9 := rfl
  rw [h1, h2]
  omega

set_option maxRecDepth 100000 in
set_option maxHeartbeats 4000000 in
theorem rinner (s : ByteArray) (w : World) (hs : s.size ≤ 9223372036854775807) :
    Calls Tryd.prog 107 #[.string s] w fun e w' => e = .returned (.bool (s.data.toList.all valB)) ∧ w = w' := by
  obtain ⟨R, hR⟩ : ∃ R, s.data.toList.all valB = R := ⟨_, rfl⟩
  rw [hR]
  have HR := Lib.hid hR
  have CB := Lib.hid rblank
  clear hR
  go_enter Tryd.func107, Tryd.ntmps107
  go_wp2_with fail
  go_loop [3] (fun i => ∃ k : Nat, i = .int .i64 k ∧ k ≤ s.size ∧ Hid (∀ b ∈ s.data.toList.take k, valB b = true)) (fun i => s.size - (intOf i).toNat)
  case atStart => exact ⟨0, rfl, by omega, hide (by simp)⟩
  case round =>
    obtain ⟨k, rfl, hk, HT⟩ := hrel
    by_cases hlt : k < s.size
    · have hc8 := s[k].toNat_lt
      have hstep : valB s[k] = true → Hid (∀ b ∈ s.data.toList.take (k + 1), valB b = true) := fun ht => by
        have hkl : k < s.data.toList.length := by rw [size_l]; omega
        rw [List.take_succ_eq_append_getElem hkl]
        intro b hb
        rcases List.mem_append.1 hb with hb | hb
        · exact HT.out b hb
        · rw [List.mem_singleton.1 hb]; exact ht
      have hfall : valB s[k] = false → R = false := fun ht => by
        rw [← HR.out]; exact all_snoc_false s.data.toList k (by rw [size_l]; omega) valB ht
      have hvi := val_iff s[k].toNat
      have hbi := isB_iff s[k]
      go_wp2_with fail
      (with_reducible refine (CB.out _ _).mono ?_); rintro e w1 ⟨rfl, rfl⟩
      by_cases hbl : isB s[k] = true
      · have ht := hstep (hvi.2 (by have := hbi.1 hbl; omega))
        clear hstep hfall hvi hbi
        rw [hbl]
        go_wp2_with fail
        go_round
        case rel => exact ⟨k + 1, by go_num, by omega, ht⟩
        case measure => simp [intOf]; omega
      · have hbf : isB s[k] = false := by simpa using hbl
        have hnb : ¬ (s[k].toNat = 32 ∨ s[k].toNat = 9) := fun h => hbl (hbi.2 h)
        rw [hbf]
        by_cases h33 : s[k].toNat < 33
        · have hres : R = false := hfall (by
            cases h : valB s[k] with
            | false => rfl
            | true => have := hvi.1 h; omega)
          clear hstep hfall hvi hbi
          subst hres
          have hd : decide ((s[k].toNat : Int) < 33) = true := by simp; omega
          go_wp2_with fail
          go_ret
          exact ⟨rfl, rfl⟩
        · by_cases h127 : s[k].toNat = 127
          · have hres : R = false := hfall (by
              cases h : valB s[k] with
              | false => rfl
              | true => have := hvi.1 h; omega)
            have hb1 := eqb_t (show (s[k].toNat : Int) = 127 by omega)
            have hd : decide ((s[k].toNat : Int) < 33) = false := by simp; omega
            clear hstep hfall hvi hbi h127
            subst hres
            go_wp2_with fail
            go_ret
            exact ⟨rfl, rfl⟩
          · have ht := hstep (hvi.2 (by omega))
            have hb1 := eqb_f (show (s[k].toNat : Int) ≠ 127 by omega)
            have hd : decide ((s[k].toNat : Int) < 33) = false := by simp; omega
            clear hstep hfall hvi hbi h127
            go_wp2_with fail
            go_round
            case rel => exact ⟨k + 1, by go_num, by omega, ht⟩
            case measure => simp [intOf]; omega
    · have hkl : k = s.size := by omega
      subst hkl
      have hd : decide ((s.size : Int) < (s.size : Int)) = false := by simp
      have hres : R = true := by
        rw [← HR.out, List.all_eq_true]
        intro b hb
        exact HT.out b (by rw [List.take_of_length_le (by rw [size_l]; omega)]; exact hb)
      subst hres
      go_wp2_with fail
      go_ret
      exact ⟨rfl, rfl⟩

theorem rValue (s : ByteArray) (w : World) (hs : s.size ≤ 1000000) :
    Calls Tryd.prog 41 #[.string s] w fun e w' => e = .returned (.bool (isVal s.data.toList)) ∧ w = w' := by
  have cI := fun w => rinner s w (by omega)
  have cT := fun w => rTrim s w hs
  have hv : isVal s.data.toList = ((tr s).toList == s.toList && s.data.toList.all valB) := by rw [Lib.toList_data, Lib.toList_data]; rfl
  rw [hv]
  cases hi : s.data.toList.all valB
  all_goals (
    rw [hi] at cI
    have CI := Lib.hid cI
    have CT := Lib.hid cT
    clear cI cT hv hi
    go_enter Tryd.func41, Tryd.ntmps41
    go_wp2_with fail
    (with_reducible refine (CI.out _).mono ?_); rintro e w1 ⟨rfl, rfl⟩
    go_wp2_with fail
    first
      | (go_ret; exact ⟨ret_bool (by simp), rfl⟩)
      | ((with_reducible refine (CT.out _).mono ?_); rintro e w2 ⟨rfl, rfl⟩
         go_wp2_with fail
         go_ret
         exact ⟨ret_bool (by simp), rfl⟩))

set_option maxRecDepth 100000 in
set_option maxHeartbeats 4000000 in
theorem rLower (s : ByteArray) (w : World) (hs : s.size ≤ 9223372036854775807) :
    Calls Tryd.prog 43 #[.string s] w fun e w' => e = .returned (.string (low s)) ∧ Below w.heap.size w w' := by
  obtain ⟨cap, w1, hr, hb1, hsz, hbi, hfz⟩ := bytes_of_string (P := Tryd.prog) 9 103 5 Tryd.underlying9 Tryd.underlying103 Tryd.underlying5 w s
  have HBI := Lib.hid hbi
  have HFZ := Lib.hid hfz
  clear hbi hfz
  go_enter Tryd.func43, Tryd.ntmps43
  go_wp2_with fail
  go_loopw [4] (fun i wr => ∃ k : Nat, i = .int .i64 k ∧ k ≤ s.size ∧ Hid (LowK wr w.heap.size s k) ∧ Hid (∀ j, j < s.size → wr.frozen? ⟨w.heap.size, j, none⟩ = false) ∧ Below w.heap.size w wr) (fun i _ => s.size - (intOf i).toNat)
  case atStart => exact ⟨0, rfl, by omega, hide (fun j hj => by rw [if_neg (by omega)]; exact HBI.out j hj), hide HFZ.out, hb1⟩
  case round =>
    obtain ⟨k, rfl, hk, HL, HF, hb⟩ := hrel
    rename World => W0
    by_cases hlt : k < s.size
    · obtain ⟨c, hc⟩ : ∃ c, s[k] = c := ⟨_, rfl⟩
      have hcell : W0.cell? ⟨w.heap.size, k, none⟩ = some (.int .u8 c.toNat) := by rw [HL.out k hlt, if_neg (by omega), hc]
      have hfz := HF.out k hlt
      obtain ⟨n, hn⟩ : ∃ n, c.toNat = n := ⟨_, rfl⟩
      have hn8 : n < 256 := by rw [← hn]; exact c.toNat_lt
      rw [hn] at hcell
      by_cases hu : 65 ≤ n ∧ n ≤ 90
      · obtain ⟨h1, h2⟩ := hu
        go_wp2_with fail
        go_roundw
        case rel =>
          refine ⟨k + 1, by go_num, by omega, hide (HL.out.step hlt _ ?_), hide fun j hj => by rw [World.frozen?_setCell]; exact HF.out j hj, hb.setCell (by simp) _⟩
          rw [hc, lowB_up (by omega), hn]; simp
        case measure => simp [intOf]; omega
      · have hno : lowB s[k] = s[k] := lowB_no (by rw [hc, hn]; exact hu)
        have rest : 65 ≤ n ∧ 90 < n ∨ n < 65 := by omega
        rcases rest with ⟨h1, h2⟩ | h1
        all_goals (
          try have hd2 : decide ((n : Int) ≤ 90) = false := by simp; omega
          try have hd1 : decide ((65 : Int) ≤ (n : Int)) = false := by simp; omega
          go_wp2_with fail
          go_roundw
          case rel => exact ⟨k + 1, by go_num, by omega, hide (HL.out.skip hlt hno), HF, hb⟩
          case measure => simp [intOf]; omega)
    · have hkl : k = s.size := by omega
      subst hkl
      have hd : decide ((s.size : Int) < (s.size : Int)) = false := by simp
      have hll : (lowL s.data.toList).length = s.size := by rw [lowL, List.length_map, size_l]
      have hcv := run_convert_bytes_back (P := Tryd.prog) W0 103 9 5 ⟨w.heap.size, 0, none⟩ cap (lowL s.data.toList) Tryd.underlying103 Tryd.underlying5 Tryd.underlying9 (fun j hj => by
        rw [hll] at hj
        rw [Addr.add_lit, Nat.zero_add, HL.out j hj, if_pos hj]
        simp only [lowL, List.getElem_map]
        rfl)
      rw [hll] at hcv
      go_wp2_with fail
      go_ret
      exact ⟨rfl, hb⟩
theorem rSame (a b : ByteArray) (w : World) (ha : a.size ≤ 9223372036854775807) (hb : b.size ≤ 9223372036854775807) :
    Calls Tryd.prog 44 #[.string a, .string b] w fun e w' => e = .returned (.bool (lowL a.data.toList == lowL b.data.toList)) ∧ Below w.heap.size w w' := by
  have cA := fun w => rLower a w ha
  have cB := fun w => rLower b w hb
  have CA := Lib.hid cA
  have CB := Lib.hid cB
  clear cA cB
  go_enter Tryd.func44, Tryd.ntmps44
  go_wp2_with fail
  (with_reducible refine (CA.out _).mono ?_); rintro e w1 ⟨rfl, hb1⟩
  go_wp2_with fail
  (with_reducible refine (CB.out _).mono ?_); rintro e w2 ⟨rfl, hb2⟩
  go_wp2_with fail
  go_ret
  refine ⟨ret_bool ?_, hb1.trans (hb2.mono hb1.size)⟩
  rw [Lib.toList_data, Lib.toList_data]; rfl
end Go.Proofs.YtepemdmjbfoiaaaDoor
