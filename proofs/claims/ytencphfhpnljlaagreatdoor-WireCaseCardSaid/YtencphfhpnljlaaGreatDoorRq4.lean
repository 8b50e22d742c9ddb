/-
  reqline: method, version, wrong.
-/
import Derived.Test.YtencphfhpnljlaaGreatDoorRq3
import Derived.Test.YtencphfhpnljlaaGreatDoorRq1
namespace Go.Proofs.YtencphfhpnljlaaGreatDoor
open Go.RowKit

theorem charQ_T : charQ = charT := rfl
theorem tok_one (b : UInt8) : isTok [b] = tokP b.toNat := by simp [isTok]
theorem ext_one (s : ByteArray) (k : Nat) (hkl : k < s.data.toList.length) : (s.extract k (k + 1)).data.toList = [s.data.toList[k]] := by
  rw [ByteArray.data_extract]
  simp only [Array.toList_extract, List.extract_eq_take_drop]
  rw [show k + 1 - k = 1 by omega, List.drop_eq_getElem_cons hkl]
  rfl
set_option maxRecDepth 100000 in
set_option maxHeartbeats 4000000 in
theorem pMethC (s b c : ByteArray) (n : Int) (w : World) (hs : s.size ≤ 1000000) :
    Calls Tryz.prog 145 #[.agg #[.string s, .string b, .string c, .int .i64 n]] w fun e w' => e = .returned (.int .i64 (methN s.data.toList : Nat)) ∧ Below w.heap.size w w' := by
  have hsz : s.data.toList.length = s.size := by rw [Array.length_toList]; rfl
  have k0 := Blk.new w 122 #[.string s, .string b, .string c, .int .i64 n]
  have c0 : (w.alloc (.cells #[.string s, .string b, .string c, .int .i64 n] 122)).cell? ⟨w.heap.size, 0, none⟩ = some (.string s) := k0.cell 0
  have B0 := Lib.hid ((Below.refl w.heap.size w).alloc (Nat.le_refl _) (.cells #[.string s, .string b, .string c, .int .i64 n] 122))
  obtain ⟨T, hT⟩ : ∃ T, methN s.data.toList = T := ⟨_, rfl⟩
  rw [hT]
  unfold methN at hT
  have HT := Lib.hid hT
  clear k0 hT
  go_enter Tryz.func145, Tryz.ntmps145
  go_wp2_with fail
  generalize w.alloc (.cells #[.string s, .string b, .string c, .int .i64 n] 122) = W0 at *
  go_loopw [11] (fun i wr => ∃ k : Nat, i = .int .i64 k ∧ k ≤ s.size ∧ Hid (∀ b ∈ s.data.toList.take k, tokP b.toNat = true) ∧ Below w.heap.size w wr) (fun i _ => s.size - (intOf i).toNat)
  case atStart => exact ⟨0, rfl, by omega, hide (by simp), B0.out⟩
  case round =>
    obtain ⟨k, rfl, hk, hI, hB⟩ := hrel
    rename World => wr
    by_cases hlt : k < s.size
    · have hkl : k < s.data.toList.length := by omega
      obtain ⟨x, hx⟩ : ∃ x, s.data.toList[k] = x := ⟨_, rfl⟩
      have hex := ext_one s k hkl
      rw [hx] at hex
      obtain ⟨y, hy⟩ : ∃ y, s.extract k (k + 1) = y := ⟨_, rfl⟩
      rw [hy] at hex
      have cI := TIs_any y wr (by have := congrArg List.length hex; rw [size_l] at this; simp at this; omega)
      rw [hex, tok_one] at cI
      have i0 : (0 : Int) ≤ (k : Int) := by omega
      have i1 : (k : Int) + 1 ≤ (s.size : Int) := by omega
      have i2 : (s.size : Int) ≤ 1000000 := by omega
      have wk : IntKind.i64.wrap ((k : Int) + 1) = (k : Int) + 1 := by rw [IntKind.wrap_i64]; omega
      have hy2 : s.extract (k : Int).toNat ((k : Int) + 1).toNat = y := by rw [show ((k : Int) + 1).toNat = k + 1 by omega, show (k : Int).toNat = k by omega]; exact hy
      cases hc : tokP x.toNat with
      | false =>
        have hTk : T = k := by rw [← HT.out]; exact tw_stop _ _ k hkl hI.out (by rw [hx]; exact hc)
        rw [hc] at cI
        have CI := Lib.hid cI
        have HTK := Lib.hid hTk
        clear hTk hc cI hx hex
        go_wp2_with fail
        (with_reducible refine (CI.out).mono ?_); rintro e w1 ⟨rfl, g1⟩
        go_wp2_with fail
        go_ret
        exact ⟨by rw [HTK.out]; rfl, hB.trans (g1.mono hB.size)⟩
      | true =>
        rw [hc] at cI
        have hall : ∀ z ∈ s.data.toList.take (k + 1), tokP z.toNat = true := by
          intro z hz
          rw [List.take_succ_eq_append_getElem hkl] at hz
          rcases List.mem_append.1 hz with hz | hz
          · exact hI.out z hz
          · rw [List.mem_singleton.1 hz, hx]; exact hc
        have HALL := Lib.hid hall
        have CI := Lib.hid cI
        clear hall hc cI hx hex
        go_wp2_with fail
        (with_reducible refine (CI.out).mono ?_); rintro e w1 ⟨rfl, g1⟩
        go_wp2_with fail
        go_roundw
        case rel => exact ⟨k + 1, by go_num, by omega, hide HALL.out, hB.trans (g1.mono hB.size)⟩
        case measure => simp [intOf]; omega
    · obtain rfl : k = s.size := by omega
      have hTk : T = s.size := by
        rw [← HT.out, ← hsz]
        exact twq_all _ _ (fun x hx => hI.out x (by rw [← hsz, List.take_length]; exact hx))
      have HTK := Lib.hid hTk
      have hd : decide ((s.size : Int) < (s.size : Int)) = false := by simp
      clear hTk
      go_wp2_with fail
      go_ret
      exact ⟨by rw [HTK.out]; rfl, hB⟩
/-- how far a text is as a given one -/
theorem ver_stop : ∀ (v r : List UInt8) (k : Nat) (h : k < v.length), (∀ j (hj : j < k), r[j]? = some (v[j]'(by omega))) → r[k]? ≠ some v[k] → verN v r = k
  | [], _, _, h, _, _ => by simp at h
  | b :: v, [], k, h, h1, h2 => by
    cases k with
    | zero => simp [verN]
    | succ k => have := h1 0 (by omega); simp at this
  | b :: v, c :: r, 0, h, h1, h2 => by
    have : ¬ b = c := fun e => h2 (by simp [e])
    rw [verN, if_neg this]
  | b :: v, c :: r, k + 1, h, h1, h2 => by
    have h0 := h1 0 (by omega)
    simp at h0
    have ih := ver_stop v r k (by simpa using h) (fun j hj => by have := h1 (j + 1) (by omega); simpa using this) (by simpa using h2)
    rw [verN, if_pos h0.symm, ih]
theorem ver_all : ∀ (v r : List UInt8), (∀ j (hj : j < v.length), r[j]? = some v[j]) → verN v r = v.length
  | [], _, _ => by simp [verN]
  | b :: v, [], h1 => by have := h1 0 (by simp); simp at this
  | b :: v, c :: r, h1 => by
    have h0 := h1 0 (by simp)
    simp at h0
    have ih := ver_all v r (fun j hj => by have := h1 (j + 1) (by simp; omega); simpa using this)
    rw [verN, if_pos h0.symm, ih]; rfl
def verB : ByteArray := ⟨#[72, 84, 84, 80, 47, 49, 46, 49]⟩
set_option maxRecDepth 100000 in
set_option maxHeartbeats 4000000 in
theorem pVerC (a b s : ByteArray) (n : Int) (w : World) (hs : s.size ≤ 1000000) :
    Calls Tryz.prog 146 #[.agg #[.string a, .string b, .string s, .int .i64 n]] w fun e w' => e = .returned (.int .i64 (verN s.data.toList verS : Nat)) ∧ Below w.heap.size w w' := by
  have hsz : s.data.toList.length = s.size := by rw [Array.length_toList]; rfl
  have k0 := Blk.new w 122 #[.string a, .string b, .string s, .int .i64 n]
  have c2 : (w.alloc (.cells #[.string a, .string b, .string s, .int .i64 n] 122)).cell? ⟨w.heap.size, 2, none⟩ = some (.string s) := k0.cell 2
  have B0 := Lib.hid ((Below.refl w.heap.size w).alloc (Nat.le_refl _) (.cells #[.string a, .string b, .string s, .int .i64 n] 122))
  obtain ⟨T, hT⟩ : ∃ T, verN s.data.toList verS = T := ⟨_, rfl⟩
  rw [hT]
  have HT := Lib.hid hT
  clear k0 hT
  go_enter Tryz.func146, Tryz.ntmps146
  go_wp2_with fail
  generalize w.alloc (.cells #[.string a, .string b, .string s, .int .i64 n] 122) = W0 at *
  go_loopw [11] (fun i wr => ∃ k : Nat, i = .int .i64 k ∧ k ≤ s.size ∧ k ≤ 8 ∧ Hid (∀ j (hj : j < k), (h2 : j < s.data.toList.length) → verS[j]? = some s.data.toList[j]) ∧ Below w.heap.size w wr) (fun i _ => s.size - (intOf i).toNat)
  case atStart => exact ⟨0, rfl, by omega, by omega, hide (fun j hj => absurd hj (by omega)), B0.out⟩
  case round =>
    obtain ⟨k, rfl, hk, hk8, hI, hB⟩ := hrel
    rename World => wr
    by_cases hlt : k < s.size
    · have hkl : k < s.data.toList.length := by omega
      by_cases h8 : k < 8
      · have hd8 : decide ((8 : Int) ≤ (k : Int)) = false := by simp; omega
        have i8 : ¬ (8 : Int) ≤ (k : Int) := by omega
        obtain ⟨x, hx, hxl⟩ : ∃ x, s[k] = x ∧ s.data.toList[k] = x := ⟨s[k], rfl, rfl⟩
        have hvk : k < verS.length := h8
        have hvb : k < verB.size := h8
        obtain ⟨y, hy, hyl⟩ : ∃ y, verB[k] = y ∧ verS[k]? = some y := ⟨verB[k], rfl, by rw [List.getElem?_eq_getElem hvk]; rfl⟩
        have HXL := Lib.hid (And.intro hxl hyl)
        clear hxl hyl
        by_cases he : x = y
        · subst he
          have e1 : ((x.toNat : Int) != (x.toNat : Int)) = false := by simp
          have e2 : ((x.toNat : Int) == (x.toNat : Int)) = true := by simp
          have hnew : ∀ j (hj : j < k + 1), (h2 : j < s.data.toList.length) → verS[j]? = some s.data.toList[j] := by
            intro j hj h2
            by_cases hjk : j = k
            · subst hjk
              rw [HXL.out.2, HXL.out.1]
            · exact hI.out j (by omega) h2
          have HN := Lib.hid hnew
          clear hnew
          unfold verB at hy hvb
          go_wp2_with fail
          go_quiet (fail)
          go_wp2_with fail
          go_roundw
          case rel => exact ⟨k + 1, by go_num, by omega, by omega, hide HN.out, below_drewN hB _⟩
          case measure => simp [intOf]; omega
        · have hne : x.toNat ≠ y.toNat := fun e => he (UInt8.toNat_inj.1 e)
          have e1 : ((x.toNat : Int) != (y.toNat : Int)) = true := by rw [bne_iff_ne]; omega
          have e2 : ((x.toNat : Int) == (y.toNat : Int)) = false := by rw [beq_eq_false_iff_ne]; omega
          have hTk : T = k := by
            rw [← HT.out]
            refine ver_stop _ _ k hkl (fun j hj => hI.out j hj (by omega)) ?_
            rw [HXL.out.2, HXL.out.1]
            exact fun e => he (Option.some.inj e).symm
          have HTK := Lib.hid hTk
          clear hTk hne he
          unfold verB at hy hvb
          go_wp2_with fail
          go_quiet (fail)
          go_wp2_with fail
          go_ret
          exact ⟨by rw [HTK.out]; rfl, by first | exact hB | exact below_drewN hB _⟩
      · have hd8 : decide ((8 : Int) ≤ (k : Int)) = true := by simp; omega
        have i8 : (8 : Int) ≤ (k : Int) := by omega
        have hTk : T = k := by
          rw [← HT.out]
          refine ver_stop _ _ k hkl (fun j hj => hI.out j hj (by omega)) ?_
          rw [List.getElem?_eq_none (by show 8 ≤ k; omega)]
          exact fun e => by cases e
        have HTK := Lib.hid hTk
        clear hTk
        go_wp2_with fail
        go_quiet (fail)
        go_wp2_with fail
        go_ret
        exact ⟨by rw [HTK.out]; rfl, by first | exact hB | exact below_drewN hB _⟩
    · obtain rfl : k = s.size := by omega
      have hTk : T = s.size := by
        rw [← HT.out, ← hsz]
        exact ver_all _ _ (fun j hj => hI.out j (by omega) hj)
      have HTK := Lib.hid hTk
      have hd : decide ((s.size : Int) < (s.size : Int)) = false := by simp
      clear hTk
      go_wp2_with fail
      go_ret
      exact ⟨by rw [HTK.out]; rfl, by first | exact hB | exact below_drewN hB _⟩
end Go.Proofs.YtencphfhpnljlaaGreatDoor
