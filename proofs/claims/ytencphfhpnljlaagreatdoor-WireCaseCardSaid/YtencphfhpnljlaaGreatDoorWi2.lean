/-
  Requests made of numbers whose fields' names and blanks are changed, in plain words: read alike (each of the 1080, by evaluation; one text for each of the six ways).
-/
import Derived.Test.YtencphfhpnljlaaGreatDoorWd2
namespace Go.Proofs.YtencphfhpnljlaaGreatDoor
open Go.RowKit

theorem case_f0 : ∀ k : Fin 1080, caseOk false 0 k.val = true := by decide +kernel
theorem case_f1 : ∀ k : Fin 1080, caseOk false 1 k.val = true := by decide +kernel
theorem case_f2 : ∀ k : Fin 1080, caseOk false 2 k.val = true := by decide +kernel
theorem case_t0 : ∀ k : Fin 1080, caseOk true 0 k.val = true := by decide +kernel
theorem case_t1 : ∀ k : Fin 1080, caseOk true 1 k.val = true := by decide +kernel
theorem case_t2 : ∀ k : Fin 1080, caseOk true 2 k.val = true := by decide +kernel
theorem case_mod (up : Bool) (j k : Nat) : caseT up j (k % 1080) = caseT up j k ∧ caseE up (k % 1080) = caseE up k := by
  obtain ⟨h1, h2, h3, h4, h5⟩ := made_mod k
  refine ⟨?_, ?_⟩
  · unfold caseT; rw [h1, h2, h3, h5]
  · unfold caseE; rw [h1, h2, h3, h4]
theorem case_one (up : Bool) (j : Nat) (hj : j < 3) (k : Nat) : (feedW newW (caseT up j k)).2 = caseE up k := by
  have key : caseOk up j (k % 1080) = true := by
    have hk : k % 1080 < 1080 := Nat.mod_lt _ (by omega)
    have : j = 0 ∨ j = 1 ∨ j = 2 := by omega
    cases up <;> rcases this with rfl | rfl | rfl
    · exact case_f0 ⟨_, hk⟩
    · exact case_f1 ⟨_, hk⟩
    · exact case_f2 ⟨_, hk⟩
    · exact case_t0 ⟨_, hk⟩
    · exact case_t1 ⟨_, hk⟩
    · exact case_t2 ⟨_, hk⟩
  unfold caseOk at key
  rw [(case_mod up j k).1, (case_mod up j k).2] at key
  simpa using key
end Go.Proofs.YtencphfhpnljlaaGreatDoor
