/-
  The parser of requests in plain words: what holds of it after any bytes. No program in sight.
-/
import Derived.Test.YtencphfhpnljlaaGreatDoorWi0
namespace Go.Proofs.YtencphfhpnljlaaGreatDoor
open Go.RowKit

/-- what holds of a parser that was fed M bytes -/
structure OkW (M : Nat) (p : WireP) : Prop where
  at_ : 1 ≤ p.at_ ∧ p.at_ ≤ 5
  text : p.text.length ≤ M
  body : p.body.length ≤ M
  left : p.left ≤ 2048
  left1 : p.at_ = 3 → 1 ≤ p.left
  flds : p.flds.length ≤ 32
  full : p.at_ = 2 → p.flds.length = 32 → p.text = [] ∨ p.text = [13]
  fs : fldsS p.flds
  chk : p.at_ = 4 → OkC p.chunks ∧ overC p.chunks = false
theorem okW_new (a M : Nat) (h : a = 1 ∨ a = 5) : OkW M ⟨a, [], [], [], [], 0, [], zeroC, false⟩ := by
  constructor <;> simp [fldsS] <;> omega
theorem okW_fail {M : Nat} (p : WireP) (s : Nat) : OkW M (failW p s).1 := okW_new 5 M (.inr rfl)
theorem okW_done {M : Nat} (p : WireP) (b : List UInt8) : OkW M (doneW p b).1 := okW_new 1 M (.inl rfl)
theorem ofT_le (l : List Fld) : (ofT l).2.1 ≤ 2048 := by
  unfold ofT ofP
  split
  · simp
  · split
    · simp
    · split
      · simp
      · split
        · simp
        · split
          · simp
          · simp only; omega
theorem readL_le {s : List UInt8} (h : (readL s).2 = 0) : (readL s).1.1.length ≤ 600 ∧ (readL s).1.2.length ≤ 600 := by
  have hc := colT_len s
  unfold readL at h ⊢
  split
  · rename_i h1; rw [if_pos h1] at h; simp at h
  · rename_i h1
    rw [if_neg h1] at h
    split
    · rename_i h2; rw [if_pos h2] at h; exact absurd h h2
    · rename_i h2
      rw [if_neg h2] at h
      split
      · rename_i h3; rw [if_pos h3] at h; simp at h
      · simp only
        omega
theorem okW_head {M : Nat} {p : WireP} (h : OkW M p) : OkW (M + 1) (headW p).1 := by
  have hl := ofT_le p.flds
  obtain ⟨⟨k, n, s⟩, hx⟩ : ∃ x, ofT p.flds = x := ⟨_, rfl⟩
  have hn : n ≤ 2048 := by rw [hx] at hl; exact hl
  unfold headW
  simp only [hx]
  split
  · exact okW_fail { p with text := [], over := true } s
  · split
    · constructor <;> simp
      · have := h.body; omega
      · exact h.left
      · exact h.flds
      · exact h.fs
      · exact ⟨okC_new, rfl⟩
    · split
      · constructor <;> simp
        · have := h.body; omega
        · exact hn
        · omega
        · exact h.flds
        · exact h.fs
      · exact okW_done { p with text := [], over := true } []
theorem events_le (p : WireP) (b : UInt8) : (stepW p b).2.length ≤ 2 := by
  unfold stepW headW failW doneW
  simp only
  split
  · split
    · split <;> simp
    · split
      · simp
      · split <;> simp
  · split
    · split
      · split
        · simp
        · split <;> simp
      · split
        · simp
        · split
          · split
            · simp
            · split
              · simp
              · split <;> simp
          · split
            · simp
            · split <;> simp
    · split
      · split <;> simp
      · split
        · split
          · simp
          · split <;> simp
        · simp
theorem okW_more {M N : Nat} {p : WireP} (h : OkW M p) (hN : M ≤ N) : OkW N p :=
  ⟨h.at_, Nat.le_trans h.text hN, Nat.le_trans h.body hN, h.left, h.left1, h.flds, h.full, h.fs, h.chk⟩
theorem okW_step {M : Nat} {p : WireP} (h : OkW M p) (b : UInt8) : OkW (M + 1) (stepW p b).1 := by
  unfold stepW
  split
  · rename_i h1
    split
    · split
      · exact okW_fail _ _
      · constructor <;> simp
        · exact h.at_
        · have := h.text; omega
        · have := h.body; omega
        · exact h.left
        · intro e; omega
        · exact h.flds
        · intro e; omega
        · exact h.fs
        · intro e; omega
    · split
      · exact okW_fail _ _
      · split
        · exact okW_fail _ _
        · constructor <;> simp
          · have := h.body; omega
          · exact h.left
          · exact h.flds
          · exact h.fs
  · split
    · rename_i h2
      split
      · split
        · exact okW_fail _ _
        · rename_i hnf
          split
          · exact okW_fail _ _
          · constructor <;> simp
            · exact h.at_
            · have := h.text; omega
            · have := h.body; omega
            · exact h.left
            · intro e; omega
            · exact h.flds
            · intro _ e
              rcases Classical.em (p.text = []) with ht | ht
              · rcases Classical.em (b = 13) with hb | hb
                · first | exact .inr ⟨ht, hb⟩ | exact ⟨ht, hb⟩ | (rw [ht, hb]; rfl) | (rw [ht, hb]; exact .inr rfl)
                · exact absurd ⟨e, .inr hb⟩ hnf
              · exact absurd ⟨e, .inl ht⟩ hnf
            · exact h.fs
            · intro e; omega
      · split
        · exact okW_fail _ _
        · rename_i hcr
          split
          · exact okW_head h
          · rename_i hne
            split
            · rename_i hr
              have hl := readL_le hr
              constructor <;> simp
              · exact h.at_
              · have := h.body; omega
              · exact h.left
              · intro e; omega
              · have h32 := h.flds
                rcases Nat.lt_or_ge p.flds.length 32 with hh | hh
                · omega
                · have := h.full h2 (by omega)
                  rcases this with ht | ht
                  · exact absurd (by rw [ht]; rfl) hne
                  · exact absurd (by rw [ht]; rfl) hne
              · intro f hf
                rcases List.mem_append.1 hf with hf | hf
                · exact h.fs f hf
                · rw [List.mem_singleton.1 hf]; exact hl
              · intro e; omega
            · split
              · exact okW_fail _ _
              · exact okW_fail _ _
    · split
      · rename_i h3
        split
        · exact okW_done _ _
        · rename_i hl1
          have hl := h.left
          have hl2 := h.left1 h3
          constructor <;> simp
          · exact h.at_
          · have := h.text; omega
          · have := h.body; omega
          · omega
          · intro e; omega
          · exact h.flds
          · exact h.full
          · exact h.fs
          · intro e; omega
      · split
        · rename_i h4
          simp only
          split
          · exact okW_fail _ _
          · split
            · exact okW_done _ _
            · rename_i h8 h7
              have hc := okC_step (h.chk h4).1 b
              constructor <;> simp
              · exact h.at_
              · have := h.text; omega
              · have := h.body; omega
              · exact h.left
              · intro e; omega
              · exact h.flds
              · exact h.full
              · exact h.fs
              · intro _; exact ⟨hc, by unfold overC; simp [h7, h8]⟩
        · exact okW_more h (Nat.le_succ _)
end Go.Proofs.YtencphfhpnljlaaGreatDoor
