/-
  reqline: char.
-/
import Derived.Test.YtencphfhpnljlaaGreatDoorProg
import Derived.Test.YtencphfhpnljlaaGreatDoorWa
import Derived.Outline
import Derived.Lib.Strings
namespace Go.Proofs.YtencphfhpnljlaaGreatDoor
open Go.RowKit

/-- may a byte stand in a target (Wi0 has it by the name charT) -/
def charQ (b : UInt8) : Bool := decide (33 ≤ b.toNat) && decide (b.toNat ≤ 126) && !(b == 35)
theorem pChar (b : UInt8) (w : World) :
    Calls Tryz.prog 94 #[.int .u8 b.toNat] w fun e w' => e = .returned (.bool (charQ b)) ∧ w = w' := by
  have hb : b.toNat < 256 := b.toNat_lt
  have h35 : (b == 35) = decide (b.toNat = 35) := by
    by_cases h : b = 35
    · subst h; rfl
    · rw [beq_eq_false_iff_ne.2 h]
      have : b.toNat ≠ 35 := fun e => h (UInt8.toNat_inj.1 e)
      simp [this]
  have hc : charQ b = (decide (33 ≤ b.toNat) && decide (b.toNat ≤ 126) && !(decide (b.toNat = 35))) := by unfold charQ; rw [h35]
  rw [hc]
  clear hc h35
  obtain ⟨n, hn⟩ : ∃ n, b.toNat = n := ⟨_, rfl⟩
  rw [hn] at hb ⊢
  clear hn
  by_cases h1 : 33 ≤ n
  · by_cases h2 : n ≤ 126
    · by_cases h3 : n = 35
      · subst h3
        go_enter Tryz.func94, Tryz.ntmps94
        go_wp2_with fail
        go_ret
        exact ⟨rfl, rfl⟩
      · have i1 : (33 : Int) ≤ (n : Int) := by omega
        have i2 : (n : Int) ≤ 126 := by omega
        have i3 : ((n : Int) == 35) = false := by rw [beq_eq_false_iff_ne]; omega
        have i4 : ((n : Int) != 35) = true := by rw [bne_iff_ne]; omega
        have HF := Lib.hid (And.intro h1 (And.intro h2 h3))
        clear h1 h2 h3
        go_enter Tryz.func94, Tryz.ntmps94
        go_wp2_with fail
        go_ret
        exact ⟨by simp [HF.out.1, HF.out.2.1, HF.out.2.2], rfl⟩
    · have i1 : (33 : Int) ≤ (n : Int) := by omega
      have i2 : ¬ (n : Int) ≤ 126 := by omega
      have HF := Lib.hid h2
      clear h2
      go_enter Tryz.func94, Tryz.ntmps94
      go_wp2_with fail
      go_ret
      exact ⟨by simp [HF.out], rfl⟩
  · have i1 : ¬ (33 : Int) ≤ (n : Int) := by omega
    have HF := Lib.hid h1
    clear h1
    go_enter Tryz.func94, Tryz.ntmps94
    go_wp2_with fail
    go_ret
    exact ⟨by simp [HF.out], rfl⟩
theorem tw_stop (p : UInt8 → Bool) : ∀ (l : List UInt8) (k : Nat) (h : k < l.length), (∀ b ∈ l.take k, p b = true) → p l[k] = false → (l.takeWhile p).length = k
  | [], _, h, _, _ => by simp at h
  | b :: l, 0, _, _, hp => by simp at hp; simp [List.takeWhile, hp]
  | b :: l, k + 1, h, ha, hp => by
    have h0 : p b = true := ha b (by simp)
    have ih := tw_stop p l k (by simpa using h) (fun x hx => ha x (by simp [hx])) (by simpa using hp)
    simp [List.takeWhile, h0, ih]
theorem twq_all (p : UInt8 → Bool) : ∀ (l : List UInt8), (∀ b ∈ l, p b = true) → (l.takeWhile p).length = l.length
  | [], _ => rfl
  | b :: l, ha => by
    have h0 : p b = true := ha b (by simp)
    have ih := twq_all p l (fun x hx => ha x (by simp [hx]))
    simp [List.takeWhile, h0, ih]
/-- the offset of the first byte of a target that is wrong, or its length -/
def tgtN (l : List UInt8) : Nat := if l.head? = some 47 then (l.takeWhile charQ).length else 0
set_option maxRecDepth 100000 in
set_option maxHeartbeats 4000000 in
theorem pTgtC (a s c : ByteArray) (n : Int) (w : World) (hs : s.size ≤ 1000000) :
    Calls Tryz.prog 62 #[.agg #[.string a, .string s, .string c, .int .i64 n]] w fun e w' => e = .returned (.int .i64 (tgtN s.data.toList : Nat)) ∧ Below w.heap.size w w' := by
  have hsz : s.data.toList.length = s.size := by rw [Array.length_toList]; rfl
  have k0 := Blk.new w 122 #[.string a, .string s, .string c, .int .i64 n]
  have c1 : (w.alloc (.cells #[.string a, .string s, .string c, .int .i64 n] 122)).cell? ⟨w.heap.size, 1, none⟩ = some (.string s) := k0.cell 1
  have B0 := Lib.hid ((Below.refl w.heap.size w).alloc (Nat.le_refl _) (.cells #[.string a, .string s, .string c, .int .i64 n] 122))
  have CC := Lib.hid pChar
  obtain ⟨T, hT⟩ : ∃ T, tgtN s.data.toList = T := ⟨_, rfl⟩
  rw [hT]
  have HT := Lib.hid hT
  clear k0 hT
  go_enter Tryz.func62, Tryz.ntmps62
  go_wp2_with fail
  go_loop [11] (fun i => ∃ k : Nat, i = .int .i64 k ∧ k ≤ s.size ∧ Hid ((∀ b ∈ s.data.toList.take k, charQ b = true) ∧ (0 < k → s.data.toList.head? = some 47))) (fun i => s.size - (intOf i).toNat)
  case atStart => exact ⟨0, rfl, by omega, hide ⟨by simp, fun h => absurd h (by omega)⟩⟩
  case round =>
    obtain ⟨k, rfl, hk, hI⟩ := hrel
    by_cases hlt : k < s.size
    · have hkl : k < s.data.toList.length := by omega
      obtain ⟨b, hb, hbl⟩ : ∃ b, s[k] = b ∧ s.data.toList[k] = b := ⟨s[k], rfl, rfl⟩
      have HBL := Lib.hid hbl
      clear hbl
      cases hc : charQ b with
      | false =>
        have hTk : T = k := by
          rw [← HT.out]
          unfold tgtN
          by_cases h0 : 0 < k
          · rw [if_pos (hI.out.2 h0)]
            exact tw_stop charQ _ k hkl hI.out.1 ((congrArg charQ HBL.out).trans hc)
          · have hk0 : k = 0 := by omega
            subst hk0
            have hn : ¬ s.data.toList.head? = some 47 := by
              intro e
              rw [List.head?_eq_getElem?, List.getElem?_eq_getElem hkl, HBL.out] at e
              rw [Option.some.inj e] at hc
              exact absurd hc (by decide)
            rw [if_neg hn]
        have HTK := Lib.hid hTk
        have CB := Lib.hid (fun X => CC.out b X)
        rw [hc] at CB
        clear hTk hc
        go_wp2_with fail
        (with_reducible refine (CB.out _).mono ?_); rintro e w1 ⟨rfl, rfl⟩
        go_wp2_with fail
        go_ret
        exact ⟨by rw [HTK.out]; rfl, B0.out⟩
      | true =>
        have CB := Lib.hid (fun X => CC.out b X)
        rw [hc] at CB
        have HC := Lib.hid hc
        clear hc
        have hall : ∀ x ∈ s.data.toList.take (k + 1), charQ x = true := by
          intro x hx
          rw [List.take_succ_eq_append_getElem hkl] at hx
          rcases List.mem_append.1 hx with hx | hx
          · exact hI.out.1 x hx
          · rw [List.mem_singleton.1 hx, HBL.out]; exact HC.out
        have HALL := Lib.hid hall
        clear hall
        by_cases h0 : k = 0
        · have e0 : ((k : Int) == 0) = true := by rw [beq_iff_eq]; omega
          have hhd : s.data.toList.head? = some b := by
            subst h0
            rw [List.head?_eq_getElem?, List.getElem?_eq_getElem hkl, HBL.out]
          by_cases h47 : b = 47
          · have e47 : ((b.toNat : Int) == 47) = true := by rw [h47]; rfl
            have e48 : ((b.toNat : Int) != 47) = false := by rw [h47]; rfl
            have HH := Lib.hid (h47 ▸ hhd)
            clear h0 h47 hhd
            go_wp2_with fail
            (with_reducible refine (CB.out _).mono ?_); rintro e w1 ⟨rfl, rfl⟩
            go_wp2_with fail
            go_round
            case rel => exact ⟨k + 1, by go_num, by omega, hide ⟨HALL.out, fun _ => HH.out⟩⟩
            case measure => simp [intOf]; omega
          · have n47 : b.toNat ≠ 47 := fun e => h47 (UInt8.toNat_inj.1 e)
            have e47 : ((b.toNat : Int) == 47) = false := by rw [beq_eq_false_iff_ne]; omega
            have e48 : ((b.toNat : Int) != 47) = true := by rw [bne_iff_ne]; omega
            have hTk : T = k := by
              rw [← HT.out]
              unfold tgtN
              rw [if_neg (by rw [hhd]; exact fun e => h47 (Option.some.inj e)), h0]
            have HTK := Lib.hid hTk
            clear h0 h47 hhd hTk n47
            go_wp2_with fail
            (with_reducible refine (CB.out _).mono ?_); rintro e w1 ⟨rfl, rfl⟩
            go_wp2_with fail
            go_ret
            exact ⟨by rw [HTK.out]; rfl, B0.out⟩
        · have e0 : ((k : Int) == 0) = false := by rw [beq_eq_false_iff_ne]; omega
          have HH := Lib.hid (hI.out.2 (by omega))
          clear h0
          go_wp2_with fail
          (with_reducible refine (CB.out _).mono ?_); rintro e w1 ⟨rfl, rfl⟩
          go_wp2_with fail
          go_round
          case rel => exact ⟨k + 1, by go_num, by omega, hide ⟨HALL.out, fun _ => HH.out⟩⟩
          case measure => simp [intOf]; omega
    · obtain rfl : k = s.size := by omega
      have hTk : T = s.size := by
        rw [← HT.out]
        unfold tgtN
        by_cases h0 : 0 < s.size
        · rw [if_pos (hI.out.2 h0), ← hsz]
          exact twq_all charQ _ (fun x hx => hI.out.1 x (by rw [← hsz, List.take_length]; exact hx))
        · have : s.data.toList = [] := List.eq_nil_of_length_eq_zero (by omega)
          rw [if_neg (by rw [this]; simp)]; omega
      have HTK := Lib.hid hTk
      have hd : decide ((s.size : Int) < (s.size : Int)) = false := by simp
      clear hTk
      go_wp2_with fail
      go_ret
      exact ⟨by rw [HTK.out]; rfl, B0.out⟩
/-- the error of a target -/
def tgtE (l : List UInt8) : Nat := if 1024 < l.length then 4 else if l = [] ∨ tgtN l < l.length then 3 else 0
set_option maxRecDepth 100000 in
set_option maxHeartbeats 4000000 in
theorem pTargetQ (s : ByteArray) (w : World) (hs : s.size ≤ 1000000) :
    Calls Tryz.prog 36 #[.string s] w fun e w' => e = .returned (.int .i64 (tgtE s.data.toList : Nat)) ∧ Below w.heap.size w w' := by
  have hsz : s.data.toList.length = s.size := by rw [Array.length_toList]; rfl
  obtain ⟨E, hE⟩ : ∃ E, tgtE s.data.toList = E := ⟨_, rfl⟩
  rw [hE]
  unfold tgtE at hE
  rw [hsz] at hE
  have HE := Lib.hid hE
  clear hE
  by_cases h1 : 1024 < s.size
  · have hEq : E = 4 := by rw [← HE.out, if_pos h1]
    have i1 : (1024 : Int) < (s.size : Int) := by omega
    subst hEq
    go_enter Tryz.func36, Tryz.ntmps36
    go_wp2_with fail
    go_ret
    exact ⟨rfl, Below.refl _ _⟩
  have i1 : ¬ (1024 : Int) < (s.size : Int) := by omega
  have k0 := Blk.new w 122 #[.string ⟨#[]⟩, .string s, .string ⟨#[]⟩, .int .i64 0]
  have b0 : Below w.heap.size w (w.alloc (.cells #[.string ⟨#[]⟩, .string s, .string ⟨#[]⟩, .int .i64 0] 122)) := (Below.refl _ _).alloc (Nat.le_refl _) _
  by_cases h0 : s.size = 0
  · have hnil : s.data.toList = [] := List.eq_nil_of_length_eq_zero (by omega)
    have hEq : E = 3 := by rw [← HE.out, if_neg h1, if_pos (.inl hnil)]
    have m1 : s.toList.isEmpty = true := by rw [Lib.toList_data, hnil]; rfl
    have m2 : s.toList = [] := by rw [Lib.toList_data, hnil]
    have B0 := Lib.hid b0
    subst hEq
    clear h0 h1 hnil k0 b0
    go_enter Tryz.func36, Tryz.ntmps36
    go_wp2_with fail
    go_ret
    exact ⟨rfl, B0.out⟩
  · have hne : s.data.toList ≠ [] := fun e => by rw [e] at hsz; simp at hsz; omega
    have m1 : s.toList.isEmpty = false := by rw [Lib.toList_data]; simpa using hne
    have m2 : ¬ s.toList = [] := by rw [Lib.toList_data]; exact hne
    have CT := Lib.hid (fun X => pTgtC ⟨#[]⟩ s ⟨#[]⟩ 0 X hs)
    have c0 : (w.alloc (.cells #[.string ⟨#[]⟩, .string s, .string ⟨#[]⟩, .int .i64 0] 122)).cell? ⟨w.heap.size, 0, none⟩ = some (.string ⟨#[]⟩) := k0.cell 0
    have c1 : (w.alloc (.cells #[.string ⟨#[]⟩, .string s, .string ⟨#[]⟩, .int .i64 0] 122)).cell? ⟨w.heap.size, 1, none⟩ = some (.string s) := k0.cell 1
    have c2 : (w.alloc (.cells #[.string ⟨#[]⟩, .string s, .string ⟨#[]⟩, .int .i64 0] 122)).cell? ⟨w.heap.size, 2, none⟩ = some (.string ⟨#[]⟩) := k0.cell 2
    have c3 : (w.alloc (.cells #[.string ⟨#[]⟩, .string s, .string ⟨#[]⟩, .int .i64 0] 122)).cell? ⟨w.heap.size, 3, none⟩ = some (.int .i64 0) := k0.cell 3
    have B0 := Lib.hid b0
    obtain ⟨T, hT⟩ : ∃ T, tgtN s.data.toList = T := ⟨_, rfl⟩
    rw [hT] at CT
    have hEq : E = if T < s.size then 3 else 0 := by
      rw [← HE.out, if_neg h1, hT]
      by_cases h : T < s.size
      · rw [if_pos (.inr h), if_pos h]
      · rw [if_neg (fun e => e.elim hne h), if_neg h]
    clear h0 h1 hne k0 b0 hT
    by_cases h : T < s.size
    · rw [if_pos h] at hEq
      subst hEq
      have i2 : (T : Int) < (s.size : Int) := by omega
      go_enter Tryz.func36, Tryz.ntmps36
      go_wp2_with fail
      (with_reducible refine (CT.out _).mono ?_); rintro e w1 ⟨rfl, g1⟩
      go_wp2_with fail
      go_ret
      exact ⟨rfl, B0.out.trans (g1.mono B0.out.size)⟩
    · rw [if_neg h] at hEq
      subst hEq
      have i2 : ¬ (T : Int) < (s.size : Int) := by omega
      go_enter Tryz.func36, Tryz.ntmps36
      go_wp2_with fail
      (with_reducible refine (CT.out _).mono ?_); rintro e w1 ⟨rfl, g1⟩
      go_wp2_with fail
      go_ret
      exact ⟨rfl, B0.out.trans (g1.mono B0.out.size)⟩
end Go.Proofs.YtencphfhpnljlaaGreatDoor
