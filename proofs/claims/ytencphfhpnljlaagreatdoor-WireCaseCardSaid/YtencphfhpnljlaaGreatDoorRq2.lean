/-
  reqline: Parts, read, from, Long.
-/
import Derived.Test.YtencphfhpnljlaaGreatDoorRq0
import Derived.Test.YtencphfhpnljlaaGreatDoorShelf
import Derived.Deep.QuietTactic
import Derived.BigQuiet
import Derived.Outline
namespace Go.Proofs.YtencphfhpnljlaaGreatDoor
open Go.RowKit

def MaxL (w : World) : Prop := ∃ m : Int, w.cell? ⟨3, 0, none⟩ = some (.int .i64 m)
theorem MaxL.below {w w' : World} (h : MaxL w) (hb : Below w.heap.size w w') : MaxL w' := by
  obtain ⟨m, hm⟩ := h
  exact ⟨m, (hb.cell (p := ⟨_, 0, none⟩) (World.block_lt_of_cell? _ _ hm)).trans hm⟩
theorem pSplit3 (S : List UInt8) (w : World) (hs : S.length ≤ 1000000) (h : MaxL w) :
    Calls Tryz.prog 164 #[.string (bs S), .string ⟨#[32]⟩, .int .i64 3] w fun e w' => ∃ c, e = .returned (.slice (some ⟨w.heap.size, 0, none⟩) (piecesS S).length c) ∧
      w'.ownsRow w.heap.size 9 1 (.slice (some ⟨w.heap.size, 0, none⟩) (piecesS S).length c) (piecesS S).length (strs (piecesS S)) ∧ Below w.heap.size w w' := by
  obtain ⟨m, hm⟩ := h
  have hp := split_pieces S
  have hc := pieces_cap S
  have hz := bs_size S
  refine (Tryz.strings_SplitN (bs S) ⟨#[32]⟩ 3 m w (by omega) hm (by decide) (by decide) (by decide)).mono ?_
  rintro e w' ⟨rfl, rfl⟩
  rw [hp]
  have hl : ((piecesS S).map bs).length = (piecesS S).length := List.length_map _
  rw [hl]
  refine ⟨_, rfl, ⟨by rw [strs_len]; omega, .inr ⟨w.heap.size, _, Lib.cellsOf ((piecesS S).map bs) (min 3 ((bs S).size + 1)), rfl, Nat.le_refl _, heap_alloc_new w _, by omega, by unfold maxLen; omega, ?_, ?_⟩⟩, (Below.refl _ _).alloc (Nat.le_refl _) _⟩
  · rw [Nat.mul_one]; exact Lib.cellsOf_size (by rw [hl]; omega)
  · rw [Nat.mul_one]
    unfold Lib.cellsOf strs
    rw [← hl, List.map_map, List.length_map, ← List.length_map (f := Value.string ∘ bs), List.take_left]
    rfl
theorem append2 {base : Nat} {w : World} {v : Value} {xs : List (List UInt8)} (ho : w.ownsRow base 9 1 v xs.length (strs xs)) (hb : base ≤ w.heap.size) (hl : xs.length ≤ 1000) :
    ∃ v' w5, (Builtin.append_ #[51, 51] 51 #[v, .slice (some ⟨w.heap.size, 0, none⟩) 2 2]).run Tryz.prog (w.alloc (.cells #[.string ⟨#[]⟩, .string ⟨#[]⟩] 9)) = .ok v' w5 ∧ w5.ownsRow base 9 1 v' (xs.length + 2) (strs (xs ++ [[], []])) ∧ Below base w w5 := by
  obtain ⟨i0, hi, hz0, hz1, hz2⟩ := info_parts infoStrA
  have hr : Reads (w.alloc (.cells #[.string ⟨#[]⟩, .string ⟨#[]⟩] 9)) (w.heap.size + 1) 1 (some ⟨w.heap.size, 0, none⟩) 2 (strs [[], []]) := by
    refine ⟨rfl, fun _ => ⟨_, rfl, Nat.lt_succ_self _, fun j u hu => ?_⟩⟩
    rw [Addr.add_lit, Nat.zero_add, (Blk.new w 9 #[.string ⟨#[]⟩, .string ⟨#[]⟩]).cell j]
    rw [← hu]
    match j with
    | 0 => rfl
    | 1 => rfl
    | (j + 2) => rfl
  obtain ⟨v', w5, hrun, hown, hg, _⟩ := run_append_any (P := Tryz.prog) (w.alloc (.cells #[.string ⟨#[]⟩, .string ⟨#[]⟩] 9)) base 51 51 9 i0 (.string .empty) 1 16 Tryz.underlying51 hi hz0 hz1 hz2 rfl (by decide) v _ _ (ho.alloc _) (w.heap.size + 1) (some ⟨w.heap.size, 0, none⟩) 2 2 _ hr (strs_one _) (by unfold maxLen; omega) (by omega) (by simp; omega)
  refine ⟨v', w5, hrun, by rw [strs_app]; exact hown, ((Below.refl base w).alloc hb _).grown hg (by simp; omega) (own_ge ho)⟩
set_option maxRecDepth 100000 in
set_option maxHeartbeats 4000000 in
theorem pParts (S : List UInt8) (w : World) (hs : S.length ≤ 1000000) (h : MaxL w) :
    Calls Tryz.prog 142 #[.string (bs S)] w fun e w' => e = .returned (.tuple #[.string (bs (partsS S).1), .string (bs (partsS S).2.1), .string (bs (partsS S).2.2.1), .int .i64 ((partsS S).2.2.2 : Nat)]) ∧ Below w.heap.size w w' := by
  have CS := Lib.hid (pSplit3 S w hs h)
  have hc := pieces_cap S
  obtain ⟨rest, hrest, hn⟩ := parts_pieces S
  obtain ⟨m, t, v, n, hX⟩ : ∃ m t v n, partsS S = (m, t, v, n) := ⟨_, _, _, _, rfl⟩
  rw [hX] at hrest hn ⊢
  simp only at hrest hn ⊢
  obtain ⟨P, hP⟩ : ∃ P, piecesS S = P := ⟨_, rfl⟩
  rw [hP] at CS hc hrest hn
  have hP3 : P.length ≤ 3 := by omega
  subst hn
  have HR := Lib.hid hrest
  clear h hP hX hrest hs
  go_enter Tryz.func142, Tryz.ntmps142
  go_wp2_with fail
  (with_reducible refine (CS.out).mono ?_); rintro e w1 ⟨c, rfl, ho, g1⟩
  obtain ⟨v', w5, hrun, ho5, g5⟩ := append2 ho g1.size (by omega)
  obtain ⟨g, cap, hv, hbg, hlt⟩ := ho5.form (by omega)
  subst hv
  have hcell := ho5.cells (g := g) rfl
  have z : ∀ (j : Nat) x, (P ++ [[], []])[j]? = some x → w5.cell? ⟨g, j, none⟩ = some (.string (bs x)) := fun j x hx => by
    have := hcell j (.string (bs x)) (by rw [strs, List.getElem?_map, hx]; rfl)
    rwa [Addr.add_lit, Nat.zero_add] at this
  rw [HR.out] at z
  have c0 := z 0 m rfl
  have c1 := z 1 t rfl
  have c2 := z 2 v rfl
  obtain ⟨L, hL⟩ : ∃ L, P.length + 2 = L := ⟨_, rfl⟩
  rw [hL] at hrun
  have l0 : (0 : Int) < (L : Int) := by omega
  have l1 : (1 : Int) < (L : Int) := by omega
  have l2 : (2 : Int) < (L : Int) := by omega
  have l3 : (L : Int) ≤ 1000 := by omega
  have hw : IntKind.i64.wrap ((L : Int) - 2) = (P.length : Int) := by rw [IntKind.wrap_i64]; omega
  have hw2 : (L : Int) - 2 = (P.length : Int) := by omega
  have HG := Lib.hid (g1.trans g5)
  have HRUN := Lib.hid hrun
  have HW := Lib.hid hw2
  clear hrun ho5 hcell z ho hL hw2
  go_wp2_with (first | (at_builtin; refine wpList_append_run HRUN.out rfl _ _ rfl rfl rfl rfl ?_))
  go_quiet (fail)
  go_wp2_with fail
  refine bodyPost_ret (results_tmp4 rfl _ _ _) rfl ?_
  exact ⟨rfl, below_drewN HG.out _⟩
end Go.Proofs.YtencphfhpnljlaaGreatDoor
