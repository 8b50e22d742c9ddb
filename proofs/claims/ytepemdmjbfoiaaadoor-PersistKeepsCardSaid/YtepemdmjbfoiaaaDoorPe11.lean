/-
  Equal lists of numbers; two structures that are the same; tests on May.
-/
import Derived.Test.YtepemdmjbfoiaaaDoorPe10
import Derived.Test.YtepemdmjbfoiaaaDoorKt1
namespace Go.Proofs.YtepemdmjbfoiaaaDoor
open Go.RowKit

theorem neLk (a0 : Int) (a1 : Bool) (a2 a3 : Int) (b0 : Int) (b1 : Bool) (b2 b3 : Int) (w : World) : (binOp .neq 76 (.agg #[.int .i64 a0, .bool a1, .int .i64 a2, .int .i64 a3]) (.agg #[.int .i64 b0, .bool b1, .int .i64 b2, .int .i64 b3])).run Tryd.prog w = .ok (.bool (!(a0 == b0 && a1 == b1 && a2 == b2 && a3 == b3))) w := by
  have h := eqLk a0 a1 a2 a3 b0 b1 b2 b3 w
  rw [run_eql_struct] at h
  rw [run_neq_struct]
  generalize (Op.equalIn 10000 76 (.agg #[.int .i64 a0, .bool a1, .int .i64 a2, .int .i64 a3]) (.agg #[.int .i64 b0, .bool b1, .int .i64 b2, .int .i64 b3])).run Tryd.prog w = r at h ⊢
  cases r with
  | ok b w1 =>
    simp only [Result.andThen_ok, Result.ok.injEq, Value.bool.injEq] at h ⊢
    obtain ⟨rfl, rfl⟩ := h
    exact ⟨rfl, rfl⟩
  | halt e w1 => simp [Result.andThen] at h

set_option maxRecDepth 100000 in
set_option maxHeartbeats 4000000 in
/-- two lists of the same numbers -/
theorem SameInts_eq (A B : Option Addr) (n c d : Nat) (xs : List Nat) (w : World) (hr : Reads w w.heap.size 1 A n (ints xs)) (ht : Reads w w.heap.size 1 B n (ints xs)) (hn : n ≤ 1000000) :
    Calls Tryd.prog 97 #[.slice A n c, .slice B n d] w fun e w' => e = .returned (.bool true) ∧ Below w.heap.size w w' := by
  have hl := hr.1
  rw [ints_len] at hl
  obtain rfl : xs.length = n := by omega
  have hd : ((xs.length : Int) != (xs.length : Int)) = false := by simp
  have HX := Lib.hid hr
  have HY := Lib.hid ht
  clear hr ht hl
  go_enter Tryd.func97, Tryd.ntmps97
  go_wp2_with fail
  go_loopw [5] (fun i wr => ∃ k j : Nat, i = .int .i64 k ∧ k ≤ xs.length ∧ wr = w.drewN j) (fun i _ => xs.length - (intOf i).toNat)
  case atStart => exact ⟨0, 0, rfl, by omega, rfl⟩
  case round =>
    obtain ⟨k, j, rfl, hk, rfl⟩ := hrel
    by_cases hlt : k < xs.length
    · obtain ⟨b, o, rfl, _, c1⟩ := HX.out.num k hlt
      obtain ⟨b', o', rfl, _, c2⟩ := HY.out.num k hlt
      obtain ⟨x, hx⟩ : ∃ x, xs[k] = x := ⟨_, rfl⟩
      rw [hx] at c1 c2
      have i0 : (0 : Int) ≤ (k : Int) := by omega
      have i1 : (k : Int) < (xs.length : Int) := by omega
      have hq : ((x : Int) != (x : Int)) = false := by simp
      clear hx hd
      go_wp2_with fail
      go_quiet (fail)
      go_wp2_with fail
      exact ⟨⟨k + 1, _, by go_num, by omega, rfl⟩, by simp [intOf]; omega⟩
    · have hkl : k = xs.length := by omega
      subst hkl
      have hd : decide ((xs.length : Int) < (xs.length : Int)) = false := by simp
      go_wp2_with fail
      go_ret
      exact ⟨rfl, rfl, rfl, rfl, Nat.le_refl _, fun _ _ => rfl⟩

set_option maxRecDepth 100000 in
set_option maxHeartbeats 4000000 in
theorem may_hit (l : Lk) (A : Option Addr) (n c : Nat) (want : List Nat) (w : World) (hr : Reads w w.heap.size 1 A n (ints want)) (hn : n ≤ 1000000) (h : mayV l = (want, 0)) :
    Calls Tryd.prog 85 #[.agg #[.int .i64 l.1, .bool l.2.1, .int .i64 l.2.2.1, .int .i64 l.2.2.2], .slice A n c] w fun e w' => e = .returned (.bool true) ∧ Below w.heap.size w w' := by
  have hl := hr.1
  rw [ints_len] at hl
  obtain rfl : want.length = n := by omega
  have cM := fun w => pMay l w
  unfold MayPost at cM
  rw [h] at cM
  obtain ⟨s, a, m, d⟩ := l
  have CM := Lib.hid cM
  have HR := Lib.hid hr
  have hb1 : Below w.heap.size w (w.alloc (.cells #[.int .i64 s, .bool a, .int .i64 m, .int .i64 d] 76)) := (Below.refl _ _).alloc (Nat.le_refl _) _
  have HB := Lib.hid hb1
  clear cM hr h hl hb1
  go_enter Tryd.func85, Tryd.ntmps85
  go_wp2_with fail
  (with_reducible refine (CM.out _).mono ?_); rintro e w2 ⟨B, cap, rfl, _, hB, g2⟩
  have h2 := HB.out.trans (g2.mono HB.out.size)
  have HS := Lib.hid (SameInts_eq B A want.length cap c want w2 hB ((HR.out.below h2).more h2.size) hn)
  clear hB g2
  go_wp2_with fail
  (with_reducible refine (HS.out).mono ?_); rintro e w3 ⟨rfl, g3⟩
  have h3 := h2.trans (g3.mono h2.size)
  go_wp2_with fail
  go_ret
  exact ⟨rfl, h3⟩
end Go.Proofs.YtepemdmjbfoiaaaDoor
