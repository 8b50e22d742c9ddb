/-
  The contract of waypostkit.Mod.
-/
import Derived.Test.YtpdohlnobbimaaaDoorProg
import Derived.Test.YtpdohlnobbimaaaDoorBase
import Derived.Test.YtpdohlnobbimaaaDoorBq
import Derived.Outline
namespace Go.Proofs.YtpdohlnobbimaaaDoor
open Go.RowKit

/-- what Mod returns lies from 0 to m - 1 -/
def ModPost (m : Int) (w : World) (e : Ending) (w' : World) : Prop := ∃ r : Int, 0 ≤ r ∧ r < m ∧ e = .returned (.int .i64 r) ∧ w = w'
theorem Mod_any (n m : Int) (w : World) (hn1 : -9223372036854775808 ≤ n) (hn2 : n ≤ 9223372036854775807) (hm : 1 ≤ m) (hm2 : m ≤ 1099511627776) :
    Calls Tryd.prog 39 #[.int .i64 n, .int .i64 m] w (ModPost m w) := by
  have d1 : decide (m < 1) = false := by simp; omega
  have u1 := Int.tmod_lt_of_pos n (show 0 < m by omega)
  have u2 := Int.lt_tmod_of_pos n (show 0 < m by omega)
  by_cases hp : 0 ≤ n
  · have hr := Int.emod_nonneg n (show m ≠ 0 by omega)
    have hr2 := Int.emod_lt_of_pos n (show 0 < m by omega)
    have d2 : decide (n % m < 0) = false := by simp; omega
    clear u1 u2
    go_enter Tryd.func39, Tryd.ntmps39
    go_wp2_with fail
    go_ret
    exact ⟨n % m, hr, hr2, rfl, rfl⟩
  · have hneg : n < 0 := by omega
    by_cases h0 : n.tmod m < 0
    · have d2 : decide (n.tmod m < 0) = true := by simpa using h0
      go_enter Tryd.func39, Tryd.ntmps39
      go_wp2_with fail
      go_ret
      exact ⟨n.tmod m + m, by omega, by omega, rfl, rfl⟩
    · have d2 : decide (n.tmod m < 0) = false := by simpa using h0
      go_enter Tryd.func39, Tryd.ntmps39
      go_wp2_with fail
      go_ret
      exact ⟨n.tmod m, by omega, by omega, rfl, rfl⟩
end Go.Proofs.YtpdohlnobbimaaaDoor
