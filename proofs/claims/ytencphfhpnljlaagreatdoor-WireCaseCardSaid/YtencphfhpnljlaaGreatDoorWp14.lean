/-
  wire: All.
-/
import Derived.Test.YtencphfhpnljlaaGreatDoorWp13
namespace Go.Proofs.YtencphfhpnljlaaGreatDoor
open Go.RowKit

/-- the events of all bytes of a connection -/
def AllPostW (evs : List EvP) (w : World) (e : Ending) (w' : World) : Prop :=
  ∃ O oc X, e = .returned (.tuple #[.slice O X.length oc, .int .i64 0]) ∧ X.map (·.1) = evs ∧ Reads w' w'.heap.size 6 O X.length (evsC X) ∧ HeldE w' 0 X ∧ Below w.heap.size w w'
set_option maxRecDepth 100000 in
set_option maxHeartbeats 4000000 in
theorem pAllW (S : List UInt8) (w : World) (hs : S.length ≤ 20000) (hT : TabW w) :
    Calls Tryz.prog 16 #[.string (bs S)] w (AllPostW (feedW newW S).2 w) := by
  have CN := Lib.hid (pNewW w)
  have cF := fun X (hX : Below w.heap.size w X) => pFeedNew S X (by omega) (hT.below hX)
  have zs := bs_size S
  have i1 : ¬ (20000 : Int) < ((bs S).size : Int) := by omega
  obtain ⟨T, hTT⟩ : ∃ T, bs S = T := ⟨_, rfl⟩
  rw [hTT] at cF i1 ⊢
  unfold newV FeedPost at cF
  have CF := Lib.hid cF
  clear cF zs hTT hT hs
  go_enter Tryz.func16, Tryz.ntmps16
  go_wp2_with fail
  (with_reducible refine (CN.out).mono ?_); rintro e w1 ⟨rfl, g1⟩
  have CF1 := Lib.hid (CF.out w1 g1)
  have G1 := Lib.hid g1
  clear g1
  go_wp2_with fail
  (with_reducible refine (CF1.out).mono ?_); rintro e w2 ⟨A, c, O, oc, X, rfl, hX, hR, hH, hF, g2⟩
  have bZ := (Below.refl w2.heap.size w2).alloc (Nat.le_refl _) (.cells (wireV (feedW newW S).1 A c) 34)
  have FIN := Lib.hid (And.intro hX (And.intro ((hR.below bZ).more bZ.size) (And.intro (hH.below bZ) ((G1.out.trans (g2.mono G1.out.size)).trans (bZ.mono (G1.out.trans (g2.mono G1.out.size)).size)))))
  clear hX hR hH hF g2 bZ
  unfold wireV at FIN ⊢
  go_wp2_with fail
  go_ret2
  exact ⟨O, oc, X, rfl, FIN.out.1, FIN.out.2.1, FIN.out.2.2.1, FIN.out.2.2.2⟩
end Go.Proofs.YtencphfhpnljlaaGreatDoor
