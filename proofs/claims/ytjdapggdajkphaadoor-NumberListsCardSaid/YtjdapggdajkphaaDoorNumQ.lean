/-
  Plain facts: what is written is read back; how values grow with digits and zeros.
-/
import Derived.Test.YtjdapggdajkphaaDoorNumP
import Derived.Test.YtjdapggdajkphaaDoorNumW3
namespace Go.Proofs.YtjdapggdajkphaaDoor

theorem pfx_all (hex : Bool) (l : List UInt8) (h : ∀ b ∈ l, dvN hex b.toNat < 16) : pfx hex l = l.length := by
  induction l with
  | nil => rfl
  | cons b l ih =>
    unfold pfx at *
    rw [List.takeWhile_cons, if_pos (by simpa [isD] using h b (by simp))]
    simp [ih (fun c hc => h c (by simp [hc]))]
theorem valA_append (hex : Bool) (l r : List UInt8) : ∀ n, valA hex n (l ++ r) = valA hex (valA hex n l) r := by
  induction l with
  | nil => intro n; rfl
  | cons b l ih => intro n; simp only [List.cons_append, valA]; exact ih _

theorem dig10 (d : Nat) (h : d < 10) : dvN false (UInt8.ofNat (48 + d)).toNat = d := by
  have e : (UInt8.ofNat (48 + d)).toNat = 48 + d := by simp [UInt8.toNat_ofNat']; omega
  rw [e]; have := dvN_f (48 + d); omega
theorem digHex (d : Nat) (h : d < 16) : dvN true (hxd d).toNat = d := by
  unfold hxd
  split
  · have e : (UInt8.ofNat (48 + d)).toNat = 48 + d := by simp [UInt8.toNat_ofNat']; omega
    rw [e]; have := dvN_t (48 + d); omega
  · have e : (UInt8.ofNat (87 + d)).toNat = 87 + d := by simp [UInt8.toNat_ofNat']; omega
    rw [e]; have := dvN_t (87 + d); omega

theorem dec_facts (u : Nat) : (∀ b ∈ Lib.decDigits u, dvN false b.toNat < 16) ∧ valA false 0 (Lib.decDigits u) = u ∧ Lib.decDigits u ≠ [] := by
  induction u using Nat.strongRecOn with
  | _ u ih =>
    rw [Lib.decDigits]
    split
    · rename_i h
      refine ⟨?_, ?_, by simp⟩
      · intro b hb; simp only [List.mem_singleton] at hb; subst hb; rw [dig10 u h]; omega
      · simp only [valA]; rw [dig10 u h]; omega
    · rename_i h
      obtain ⟨h1, h2, _⟩ := ih (u / 10) (by omega)
      refine ⟨?_, ?_, by simp⟩
      · intro b hb
        simp only [List.mem_append, List.mem_singleton] at hb
        rcases hb with hb | hb
        · exact h1 b hb
        · subst hb; rw [dig10 _ (by omega)]; omega
      · rw [valA_append, h2]; simp only [valA]; rw [dig10 _ (by omega)]; simp only [baseN, Bool.false_eq_true, if_false]; omega
theorem hex_facts (u : Nat) : (∀ b ∈ hexDigits u, dvN true b.toNat < 16) ∧ valA true 0 (hexDigits u) = u ∧ hexDigits u ≠ [] := by
  induction u using Nat.strongRecOn with
  | _ u ih =>
    rw [hexDigits]
    split
    · rename_i h
      refine ⟨?_, ?_, by simp⟩
      · intro b hb; simp only [List.mem_singleton] at hb; subst hb; rw [digHex u h]; omega
      · simp only [valA]; rw [digHex u h]; omega
    · rename_i h
      obtain ⟨h1, h2, _⟩ := ih (u / 16) (by omega)
      refine ⟨?_, ?_, by simp⟩
      · intro b hb
        simp only [List.mem_append, List.mem_singleton] at hb
        rcases hb with hb | hb
        · exact h1 b hb
        · subst hb; rw [digHex _ (by omega)]; omega
      · rw [valA_append, h2]; simp only [valA]; rw [digHex _ (by omega)]; simp only [baseN, if_true]; omega

theorem rd_of (hex : Bool) (l : List UInt8) (digits : Int) (most n : Nat) (h0 : l ≠ []) (ha : ∀ b ∈ l, dvN hex b.toNat < 16) (hv : valA hex 0 l = n) (hn : n < 18446744073709551616) (hd : (l.length : Int) ≤ digits) (hm : n ≤ most) : rdN hex l digits most = (n, 0) := by
  simp only [rdN, h0, pfx_all hex l ha, hv, false_or, Nat.lt_irrefl, if_false]
  rw [if_neg (by omega), if_neg (by omega)]
theorem rd_of_long (hex : Bool) (l : List UInt8) (digits : Int) (most : Nat) (h0 : l ≠ []) (ha : ∀ b ∈ l, dvN hex b.toNat < 16) (hd : digits < (l.length : Int)) : rdN hex l digits most = (0, 4) := by
  simp only [rdN, h0, pfx_all hex l ha, false_or, Nat.lt_irrefl, if_false]
  rw [if_pos hd]
theorem rd_of_range (hex : Bool) (l : List UInt8) (digits : Int) (most n : Nat) (h0 : l ≠ []) (ha : ∀ b ∈ l, dvN hex b.toNat < 16) (hv : valA hex 0 l = n) (hd : (l.length : Int) ≤ digits) (hm : most < n) : rdN hex l digits most = (0, 2) := by
  simp only [rdN, h0, pfx_all hex l ha, hv, false_or, Nat.lt_irrefl, if_false]
  rw [if_neg (by omega), if_pos (by omega)]
/-- zeros ahead change no value -/
theorem valA_zeros (hex : Bool) (k : Nat) (l : List UInt8) : valA hex 0 (List.replicate k 48 ++ l) = valA hex 0 l := by
  induction k with
  | zero => rfl
  | succ k ih =>
    rw [List.replicate_succ, List.cons_append]
    simp only [valA]
    have : dvN hex (48 : UInt8).toNat = 0 := by cases hex <;> decide
    rw [this]; simpa using ih
/-- the numeral of a uint64 is short -/
theorem decDigits_le (u : Nat) (h : u < 18446744073709551616) : (Lib.decDigits u).length ≤ 20 := by
  rw [Lib.decDigits_length]
  by_cases h1 : 1 ≤ u
  · have := Lib.numDigits_eq u h1 h; split at this <;> omega
  · rw [Lib.nDigits_small (by omega)]; omega
theorem hexDigits_le (u : Nat) : ∀ k, u < 16 ^ k → 1 ≤ k → (hexDigits u).length ≤ k := by
  induction u using Nat.strongRecOn with
  | _ u ih =>
    intro k hu hk
    rw [hexDigits]
    split
    · simpa using hk
    · rename_i h
      obtain ⟨m, rfl⟩ : ∃ m, k = m + 1 := ⟨k - 1, by omega⟩
      have h2 : 1 ≤ m := by
        rcases Nat.eq_zero_or_pos m with h3 | h3
        · subst h3; simp at hu; omega
        · exact h3
      have := ih (u / 16) (by omega) m (by rw [Nat.pow_succ] at hu; omega) h2
      simp; omega
theorem hexDigits_le16 (u : Nat) (h : u < 18446744073709551616) : (hexDigits u).length ≤ 16 := by
  have h1 : (16:Nat)^16 = 18446744073709551616 := by decide
  exact hexDigits_le u 16 (by omega) (by decide)
end Go.Proofs.YtjdapggdajkphaaDoor
