/-
  The chapter's first examples of connections (waypostlaw13.awake).
-/
import Derived.Test.YtepemdmjbfoiaaaDoorPe6
namespace Go.Proofs.YtepemdmjbfoiaaaDoor
open Go.RowKit

theorem reads_newF13 (w : World) (t : TypeId) (xs : List Fld) (cs : Array Value) (h : cs.toList = fldsC xs) : Reads (w.alloc (.cells cs t)) (w.alloc (.cells cs t)).heap.size 2 (some ⟨w.heap.size, 0, none⟩) xs.length (fldsC xs) := by
  refine ⟨by rw [fldsC_len], fun _ => ⟨_, rfl, by simp, fun j u hu => ?_⟩⟩
  rw [Addr.add_lit, Nat.zero_add, (Blk.new w t cs).cell j]
  rw [← h] at hu
  simpa using hu
theorem reads_newE (w : World) (t : TypeId) (xs : List Ev) (cs : Array Value) (h : cs.toList = evsC xs) : Reads (w.alloc (.cells cs t)) (w.alloc (.cells cs t)).heap.size 3 (some ⟨w.heap.size, 0, none⟩) xs.length (evsC xs) := by
  refine ⟨by rw [evsC_len], fun _ => ⟨_, rfl, by simp, fun j u hu => ?_⟩⟩
  rw [Addr.add_lit, Nat.zero_add, (Blk.new w t cs).cell j]
  rw [← h] at hu
  simpa using hu

set_option maxRecDepth 100000 in
set_option maxHeartbeats 4000000 in
theorem closes_any (s : ByteArray) (w : World) (hs : s.size ≤ 100000) (h : closeF (conn.data.toList, s.data.toList) = true) :
    Calls Tryd.prog 84 #[.string s] w fun e w' => e = .returned (.bool true) ∧ Below w.heap.size w w' := by
  have hb1 : Below w.heap.size w (w.alloc (.cells #[.string conn, .string s] 52)) := (Below.refl _ _).alloc (Nat.le_refl _) _
  have hr := reads_newF13 w 52 [(conn.data.toList, s.data.toList)] #[.string conn, .string s] rfl
  have cC := pCloses (some ⟨w.heap.size, 0, none⟩) 1 1 [(conn.data.toList, s.data.toList)] _ hr (by omega) (by
    intro f hf
    rw [List.mem_singleton.1 hf]
    show conn.data.toList.length ≤ 100000 ∧ s.data.toList.length ≤ 100000
    exact ⟨by decide, by rw [size_l]; exact hs⟩)
  have hany : [(conn.data.toList, s.data.toList)].any closeF = true := by simp [h]
  rw [hany] at cC
  unfold conn at cC
  have CC := Lib.hid cC
  have HB := Lib.hid hb1
  clear cC hb1 hr hany h
  go_enter Tryd.func84, Tryd.ntmps84
  go_wp2_with fail
  (with_reducible refine (CC.out).mono ?_); rintro e w2 ⟨rfl, g2⟩
  go_wp2_with fail
  go_ret
  exact ⟨rfl, HB.out.trans (g2.mono HB.out.size)⟩

def eIn : Ev := (1, 0, false)
def eOk : Ev := (3, 200, false)
def eBad : Ev := (2, 400, false)
theorem kaClose : closeF (conn.data.toList, (⟨#[107, 101, 101, 112, 45, 97, 108, 105, 118, 101, 44, 32, 67, 108, 111, 115, 101]⟩ : ByteArray).data.toList) = true := by decide +kernel

set_option maxRecDepth 100000 in
set_option maxHeartbeats 8000000 in
theorem awake13 (w : World) : Calls Tryd.prog 87 #[] w fun e w' => e = .returned (.bool true) ∧ Below w.heap.size w w' := by
  have CE := Lib.hid event_any
  have cR1 : ∀ (w : World) (g : Nat), w.heap.size = g → Calls Tryd.prog 82 #[.agg #[.int .i64 1, .bool false, .int .i64 1, .int .i64 200], .slice (some ⟨g, 0, none⟩) 2 2] (w.alloc (.cells #[.int .i64 1, .int .i64 0, .bool false, .int .i64 3, .int .i64 200, .bool false] 81)) fun e w' => e = .returned (.bool true) ∧ Below (w.alloc (.cells #[.int .i64 1, .int .i64 0, .bool false, .int .i64 3, .int .i64 200, .bool false] 81)).heap.size (w.alloc (.cells #[.int .i64 1, .int .i64 0, .bool false, .int .i64 3, .int .i64 200, .bool false] 81)) w' := by
    intro w g hg
    subst hg
    exact runs_hit (1, false, 1, 200) (some ⟨w.heap.size, 0, none⟩) 2 2 [eIn, eOk] _ (reads_newE w 81 [eIn, eOk] _ rfl) (by omega) (by decide +kernel)
  have cR2 : ∀ (w : World) (g : Nat), w.heap.size = g → Calls Tryd.prog 82 #[.agg #[.int .i64 3, .bool false, .int .i64 1, .int .i64 400], .slice (some ⟨g, 0, none⟩) 1 1] (w.alloc (.cells #[.int .i64 2, .int .i64 400, .bool false] 81)) fun e w' => e = .returned (.bool true) ∧ Below (w.alloc (.cells #[.int .i64 2, .int .i64 400, .bool false] 81)).heap.size (w.alloc (.cells #[.int .i64 2, .int .i64 400, .bool false] 81)) w' := by
    intro w g hg
    subst hg
    exact runs_hit (3, false, 1, 400) (some ⟨w.heap.size, 0, none⟩) 1 1 [eBad] _ (reads_newE w 81 [eBad] _ rfl) (by omega) (by decide +kernel)
  have cF : ∀ (w : World) (g : Nat), w.heap.size = g → Calls Tryd.prog 83 #[.int .i64 9, .slice (some ⟨g, 0, none⟩) 2 2] (w.alloc (.cells #[.int .i64 1, .int .i64 0, .bool false, .int .i64 1, .int .i64 0, .bool false] 81)) fun e w' => e = .returned (.bool true) ∧ Below (w.alloc (.cells #[.int .i64 1, .int .i64 0, .bool false, .int .i64 1, .int .i64 0, .bool false] 81)).heap.size (w.alloc (.cells #[.int .i64 1, .int .i64 0, .bool false, .int .i64 1, .int .i64 0, .bool false] 81)) w' := by
    intro w g hg
    subst hg
    exact fails_hit 9 (some ⟨w.heap.size, 0, none⟩) 1 2 [eIn, eIn] _ (reads_newE w 81 [eIn, eIn] _ rfl) (by omega) (by decide +kernel)
  have cC := fun w => closes_any ⟨#[107, 101, 101, 112, 45, 97, 108, 105, 118, 101, 44, 32, 67, 108, 111, 115, 101]⟩ w (by decide) kaClose
  have cN := fun w => pCloses none 0 0 [] w Reads.none_ (by omega) (by intro f hf; cases hf)
  rw [show ([] : List Fld).any closeF = false from rfl] at cN
  have CR1 := Lib.hid cR1
  have CR2 := Lib.hid cR2
  have CF := Lib.hid cF
  have CC := Lib.hid cC
  have CN := Lib.hid cN
  clear cR1 cR2 cF cC cN
  go_enter Tryd.func87, Tryd.ntmps87
  go_wp2_with fail
  (with_reducible refine (CE.out _ _ _ _).mono ?_); rintro e w1 ⟨rfl, g1⟩
  go_wp2_with fail
  (with_reducible refine (CE.out _ _ _ _).mono ?_); rintro e w2 ⟨rfl, g2⟩
  have h2 := g1.trans (g2.mono g1.size)
  clear g1 g2
  go_wp2_with fail
  (with_reducible refine (CR1.out _ _ (by simp)).mono ?_); rintro e w3 ⟨rfl, g3⟩
  have b3 := (below3 w2 _ _ _).trans (g3.mono (below3 w2 _ _ _).size)
  have k3 : Blk w3 w2.heap.size 81 #[.int .i64 1, .int .i64 0, .bool false] := Blk.below (Blk.alloc (Blk.alloc (Blk.new w2 _ _) _) _) g3 (by simp; omega)
  have h3 := h2.trans (b3.mono h2.size)
  have H3 := Lib.hid (And.intro k3 h3)
  clear h2 g3 b3 k3 h3
  go_wp2_with fail
  (with_reducible refine (CE.out _ _ _ _).mono ?_); rintro e w4 ⟨rfl, g4⟩
  have k4 := H3.out.1.below g4 H3.out.1.lt
  have h4 := H3.out.2.trans (g4.mono H3.out.2.size)
  have h4' := h4.alloc h4.size (.cells #[.int .i64 2, .int .i64 400, .bool false] 81)
  have H4 := Lib.hid (And.intro (k4.alloc (.cells #[.int .i64 2, .int .i64 400, .bool false] 81)) h4')
  clear k4 h4 h4' g4
  go_wp2_with fail
  (with_reducible refine (CR2.out _ _ rfl).mono ?_); rintro e w5 ⟨rfl, g5⟩
  have k5 := H4.out.1.below g5 H4.out.1.lt
  have h5 := H4.out.2.trans (g5.mono H4.out.2.size)
  have c0 : w5.cell? ⟨w2.heap.size, 0, none⟩ = some (.int .i64 1) := k5.cell 0
  have c1 : w5.cell? ⟨w2.heap.size, 1, none⟩ = some (.int .i64 0) := k5.cell 1
  have c2 : w5.cell? ⟨w2.heap.size, 2, none⟩ = some (.bool false) := k5.cell 2
  have H5 := Lib.hid (h5.alloc h5.size (.cells #[.int .i64 1, .int .i64 0, .bool false, .int .i64 1, .int .i64 0, .bool false] 81))
  clear k5 h5 g5
  go_wp2_with fail
  (with_reducible refine (CF.out _ _ rfl).mono ?_); rintro e w6 ⟨rfl, g6⟩
  have h6 := H5.out.trans (g6.mono H5.out.size)
  clear g6 c0 c1 c2
  go_wp2_with fail
  (with_reducible refine (CC.out _).mono ?_); rintro e w7 ⟨rfl, g7⟩
  have h7 := h6.trans (g7.mono h6.size)
  clear g7 h6
  go_wp2_with fail
  (with_reducible refine (CN.out _).mono ?_); rintro e w8 ⟨rfl, g8⟩
  have h8 := h7.trans (g8.mono h7.size)
  go_wp2_with fail
  go_ret
  exact ⟨rfl, h8⟩
end Go.Proofs.YtepemdmjbfoiaaaDoor
