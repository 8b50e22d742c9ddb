/-
  The contracts of slices.Contains on texts, and of package token's Holds and Join.
-/
import Derived.Test.YtpdohlnobbimaaaDoorRd
import Derived.Test.YtpdohlnobbimaaaDoorTl2
namespace Go.Proofs.YtpdohlnobbimaaaDoor
open Go.RowKit

theorem Join_any (A : Option Addr) (n c : Nat) (xs : List (List UInt8)) (w : World) (hr : Reads w w.heap.size 1 A n (strs xs)) (hn : n ≤ 1000000) (hc : n ≤ c) (hlen : (joinL xs).length ≤ 1000000) :
    Calls Tryd.prog 62 #[.slice A n c, .string ⟨#[44, 32]⟩] w fun e w' => e = .returned (.string (bs (joinL xs))) ∧ Below w.heap.size w w' := by
  obtain rfl := hr.len
  by_cases h0 : xs.length = 0
  · obtain rfl := List.eq_nil_of_length_eq_zero h0
    exact (Tryd.strings_Join_none A c ⟨#[44, 32]⟩ w).mono fun e w' ⟨he, hw⟩ => ⟨he, hw ▸ Below.refl _ _⟩
  · obtain ⟨b, o, rfl, hb, hcell⟩ := hr.lit (by omega)
    have em : (xs.map bs).map (·.data.toList) = xs := by rw [List.map_map, show ((fun x : ByteArray => x.data.toList) ∘ bs) = id from rfl, List.map_id]
    have h := Tryd.strings_Join b o c (xs.map bs) ⟨#[44, 32]⟩ w (fun j x hj => by
      rw [List.getElem?_map] at hj
      cases e : xs[j]? with
      | none => rw [e] at hj; simp at hj
      | some y =>
        rw [e] at hj
        simp only [Option.map_some, Option.some.injEq] at hj
        subst hj
        have hjl := (List.getElem?_eq_some_iff.1 e).1
        rw [hcell j _ (strs_at xs j hjl), (List.getElem?_eq_some_iff.1 e).2]) hb (by simp; omega) (by simp; omega) (by rw [em]; exact Nat.le_trans hlen (by omega))
    rw [em, List.length_map] at h
    exact h

end Go.Proofs.YtpdohlnobbimaaaDoor
