/-
  The list of the chapter's examples, and awake (waypostlaw06).
-/
import Derived.Test.YtpdohlnobbimaaaDoorFd8
import Derived.Test.YtpdohlnobbimaaaDoorBs4
namespace Go.Proofs.YtpdohlnobbimaaaDoor
open Go.RowKit

set_option maxRecDepth 100000 in
theorem of_any (a b : ByteArray) (w : World) : Calls Tryd.prog 51 #[.string a, .string b] w fun e w' => e = .returned (.agg #[.string a, .string b]) ∧ Below w.heap.size w w' := by
  have hZ := Blk.new w 36 #[.string a, .string b]
  go_enter Tryd.func51, Tryd.ntmps51
  go_wp2_with fail
  refine bodyPost_ret (results_cell_row (p := 4) (ty := 36) (by kernel_rfl) _ _ w.heap.size 36 #[.string a, .string b] (0, 0) _ rfl hZ Tryd.underlying36 rfl (by kernel_rfl)) rfl ?_
  exact ⟨rfl, (Below.refl w.heap.size w).alloc (Nat.le_refl _) _⟩
theorem reads_newF (w : World) (t : TypeId) (xs : List Fld) (cs : Array Value) (h : cs.toList = fldsC xs) : Reads (w.alloc (.cells cs t)) (w.alloc (.cells cs t)).heap.size 2 (some ⟨w.heap.size, 0, none⟩) xs.length (fldsC xs) := by
  refine ⟨by rw [fldsC_len], fun _ => ⟨_, rfl, by simp, fun j u hu => ?_⟩⟩
  rw [Addr.add_lit, Nat.zero_add, (Blk.new w t cs).cell j]
  rw [← h] at hu
  simpa using hu
def exL : List Fld := [([72, 111, 115, 116], [97]), ([88, 45, 65], [49]), ([120, 45, 97], [50])]
set_option maxRecDepth 100000 in
theorem list_any (w : World) : Calls Tryd.prog 49 #[] w fun e w' => ∃ A, e = .returned (.slice A 3 3) ∧ Reads w' w'.heap.size 2 A 3 (fldsC exL) ∧ Below w.heap.size w w' := by
  have CO := Lib.hid of_any
  go_enter Tryd.func49, Tryd.ntmps49
  go_wp2_with fail
  (with_reducible refine (CO.out _ _ _).mono ?_); rintro e w1 ⟨rfl, g1⟩
  go_wp2_with fail
  (with_reducible refine (CO.out _ _ _).mono ?_); rintro e w2 ⟨rfl, g2⟩
  have h2 := g1.trans (g2.mono g1.size)
  go_wp2_with fail
  (with_reducible refine (CO.out _ _ _).mono ?_); rintro e w3 ⟨rfl, g3⟩
  have h3 := h2.trans (g3.mono h2.size)
  go_wp2_with fail
  go_ret
  exact ⟨_, rfl, reads_newF w3 36 exL _ rfl, h3.alloc h3.size _⟩
theorem exL_ok : fldsOk exL := by
  intro f hf
  have : f.1.length ≤ 100 ∧ f.2.length ≤ 100 := by
    revert f
    decide
  omega
theorem exL_len : exL.length = 3 := rfl
set_option maxRecDepth 100000 in
set_option maxHeartbeats 4000000 in
theorem gets_hit (nm want : ByteArray) (w : World) (hnm : nm.size ≤ 100000) (h1 : askL exL [nm.data.toList] = 0) (h2 : getT (allL nm.data.toList exL) = (want.data.toList, true)) :
    Calls Tryd.prog 53 #[.string nm, .string want] w fun e w' => e = .returned (.bool true) ∧ Below w.heap.size w w' := by
  have CL := Lib.hid list_any
  have cG := fun A w (hr : Reads w w.heap.size 2 A 3 (fldsC exL)) => pGet A 3 3 exL nm w hr (by omega) exL_ok hnm
  rw [h1, h2] at cG
  have CG := Lib.hid cG
  have hq : ((bs want.data.toList).toList == want.toList) = true := by simp [bs]
  clear cG h1 h2
  go_enter Tryd.func53, Tryd.ntmps53
  go_wp2_with fail
  (with_reducible refine (CL.out _).mono ?_); rintro e w1 ⟨A, rfl, hr, g1⟩
  have CG' := Lib.hid (CG.out A w1 hr)
  clear hr
  go_wp2_with fail
  (with_reducible refine (CG'.out).mono ?_); rintro e w2 ⟨rfl, g2⟩
  go_wp2_with fail
  go_ret
  exact ⟨rfl, g1.trans (g2.mono g1.size)⟩

def xA3 : Fld := ([88, 45, 97], [51])
set_option maxRecDepth 100000 in
set_option maxHeartbeats 8000000 in
theorem awake06 (w : World) : Calls Tryd.prog 54 #[] w fun e w' => e = .returned (.bool true) ∧ Below w.heap.size w w' := by
  have CL := Lib.hid list_any
  have CO := Lib.hid of_any
  have cG := fun w => gets_hit ⟨#[104, 111, 115, 116]⟩ ⟨#[97]⟩ w (by decide) (by decide +kernel) (by decide +kernel)
  have cC := fun A w (hr : Reads w w.heap.size 2 A 3 (fldsC exL)) => pCombine A 3 3 exL ⟨#[88, 45, 65]⟩ w hr (by omega) exL_ok (by decide)
  rw [show askL exL [(⟨#[88, 45, 65]⟩ : ByteArray).data.toList] = 0 by decide +kernel, show comT (allL (⟨#[88, 45, 65]⟩ : ByteArray).data.toList exL) = ([49, 44, 32, 50], true) by decide +kernel] at cC
  have cP : ∀ A w, Reads w w.heap.size 2 A 3 (fldsC exL) → Calls Tryd.prog 22 #[.slice A 3 3, .agg #[.string ⟨#[88, 45, 97]⟩, .string ⟨#[51]⟩]] w (FldsPost (putL xA3 false exL) 0 w) := fun A w hr => pPutHit A 3 3 exL xA3 w hr (by omega) exL_ok (by decide) (by decide) (by decide +kernel) (by decide +kernel) 1 [2] (by decide +kernel)
  unfold FldsPost at cP
  rw [show putL xA3 false exL = [([72, 111, 115, 116], [97]), ([88, 45, 97], [51])] by decide +kernel] at cP
  have cT := fun A w (hr : Reads w w.heap.size 2 A 3 (fldsC exL)) => pText A 3 3 exL w hr (by omega) exL_ok (by decide +kernel)
  have cK := fun A w (hr : Reads w w.heap.size 2 A 3 (fldsC exL)) => pCheckF A 3 3 exL w hr (by omega) exL_ok
  rw [show checkL exL = (0, 0) by decide +kernel] at cK
  obtain ⟨T, hT⟩ : ∃ T, bs (textL exL) = T := ⟨_, rfl⟩
  have hT2 : T = ⟨#[72, 111, 115, 116, 58, 32, 97, 13, 10, 88, 45, 65, 58, 32, 49, 13, 10, 120, 45, 97, 58, 32, 50, 13, 10]⟩ := by rw [← hT]; decide +kernel
  rw [hT, hT2] at cT
  clear hT hT2
  have cC2 : bs [49, 44, 32, 50] = ⟨#[49, 44, 32, 50]⟩ := rfl
  rw [cC2] at cC
  clear cC2
  have CG := Lib.hid cG
  have CC := Lib.hid cC
  have CP := Lib.hid cP
  have CT := Lib.hid cT
  have CK := Lib.hid cK
  clear cG cC cP cT cK
  go_enter Tryd.func54, Tryd.ntmps54
  go_wp2_with fail
  (with_reducible refine (CL.out _).mono ?_); rintro e w1 ⟨A, rfl, hr, g1⟩
  have CC' := Lib.hid (CC.out A w1 hr)
  clear hr
  go_wp2_with fail
  (with_reducible refine (CC'.out).mono ?_); rintro e w2 ⟨rfl, g2⟩
  have h2 := g1.trans (g2.mono g1.size)
  clear g1 g2 CC'
  go_wp2_with fail
  (with_reducible refine (CL.out _).mono ?_); rintro e w3 ⟨A3, rfl, hr, g3⟩
  have h3 := h2.trans (g3.mono h2.size)
  have HR3 := Lib.hid hr
  clear hr h2 g3
  go_wp2_with fail
  (with_reducible refine (CO.out _ _ _).mono ?_); rintro e w4 ⟨rfl, g4⟩
  have h4 := h3.trans (g4.mono h3.size)
  have CP' := Lib.hid (CP.out A3 w4 ((HR3.out.below g4).more g4.size))
  clear h3 g4
  go_wp2_with fail
  (with_reducible refine (CP'.out).mono ?_); rintro e w5 ⟨A5, c5, rfl, hc5, hr5, g5⟩
  have h5 := h4.trans (g5.mono h4.size)
  have HR5 := Lib.hid hr5
  clear h4 g5 hr5 hc5
  go_wp2_with fail
  (with_reducible refine (CL.out _).mono ?_); rintro e w6 ⟨A6, rfl, hr, g6⟩
  have h6 := h5.trans (g6.mono h5.size)
  have CT' := Lib.hid (CT.out A6 w6 hr)
  clear hr
  go_wp2_with fail
  (with_reducible refine (CT'.out).mono ?_); rintro e w7 ⟨rfl, g7⟩
  have h7 := h6.trans (g7.mono h6.size)
  have g57 := g6.trans (g7.mono g6.size)
  clear g6 g7 h6
  go_wp2_with fail
  (with_reducible refine (CL.out _).mono ?_); rintro e w8 ⟨A8, rfl, hr, g8⟩
  have h8 := h7.trans (g8.mono h7.size)
  have CK' := Lib.hid (CK.out A8 w8 hr)
  clear hr
  go_wp2_with fail
  (with_reducible refine (CK'.out).mono ?_); rintro e w9 ⟨rfl, g9⟩
  have h9 := h8.trans (g9.mono h8.size)
  have g59 := (g57.trans (g8.mono g57.size)).trans (g9.mono (g57.trans (g8.mono g57.size)).size)
  clear g8 g9 h8 g57 h7 h5
  go_wp2_with fail
  (with_reducible refine (CG.out _).mono ?_); rintro e w10 ⟨rfl, g10⟩
  have h10 := h9.trans (g10.mono h9.size)
  have g510 := g59.trans (g10.mono g59.size)
  clear g10 h9 g59
  go_wp2_with fail
  (with_reducible refine (CO.out _ _ _).mono ?_); rintro e w11 ⟨rfl, g11⟩
  have h11 := h10.trans (g11.mono h10.size)
  have g511 := g510.trans (g11.mono g510.size)
  clear g11 h10 g510
  go_wp2_with fail
  (with_reducible refine (CO.out _ _ _).mono ?_); rintro e w12 ⟨rfl, g12⟩
  have h12 := h11.trans (g12.mono h11.size)
  have g512 := g511.trans (g12.mono g511.size)
  clear g12 h11 g511
  have hZ := reads_newF w12 36 [([72, 111, 115, 116], [97]), ([88, 45, 97], [51])] #[.string ⟨#[72, 111, 115, 116]⟩, .string ⟨#[97]⟩, .string ⟨#[88, 45, 97]⟩, .string ⟨#[51]⟩] rfl
  have hY := ((HR5.out.below g512).more g512.size).alloc (Nat.le_refl _) (.cells #[.string ⟨#[72, 111, 115, 116]⟩, .string ⟨#[97]⟩, .string ⟨#[88, 45, 97]⟩, .string ⟨#[51]⟩] 36)
  have CS := Lib.hid (SameFields_any A5 _ 2 2 c5 2 _ _ _ (hY.more (by simp)) hZ (by omega) (by omega))
  clear hZ hY
  go_wp2_with fail
  (with_reducible refine (CS.out).mono ?_); rintro e w13 ⟨rfl, k, rfl⟩
  go_wp2_with fail
  go_ret
  exact ⟨rfl, below_drewN (h12.alloc h12.size _) k⟩
end Go.Proofs.YtpdohlnobbimaaaDoor
