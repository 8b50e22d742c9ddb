/-
  Bytes in a block of their own that were converted from a string, or grew out of one: one byte more.
-/
import Derived.Test.YtkbihipgnlglbaaGreatDoorProg
import Derived.Test.YtkbihipgnlglbaaGreatDoorBase
import Derived.Lib.ConvBytes
import Derived.Lib.BufferOwn
import Derived.Lib.FrozenHead
namespace Go.Proofs.YtkbihipgnlglbaaGreatDoor
open Go.RowKit

theorem infoU8A : (Tryz.prog.info? 5).map (fun i => (i.zero, i.size, i.bytes)) = some (some (.int .u8 0), 1, 1) := by kernel_rfl
/-- v is a slice of a block of bytes that holds xs; none of the cells behind them is frozen -/
def BytesAt (w : World) (v : Value) (xs : List UInt8) : Prop :=
  ∃ g cap cur fz, v = .slice (some ⟨g, 0, none⟩) xs.length cap ∧ w.heap[g]? = some (.cells cur 5 fz) ∧ (fz.2 ≤ xs.length ∨ cap ≤ fz.1) ∧ xs.length ≤ cap ∧ cap ≤ maxLen ∧ cur.size = cap ∧ cur.toList.take xs.length = Lib.byteCells xs
theorem BytesAt.lt {w : World} {v : Value} {xs : List UInt8} (h : BytesAt w v xs) : ∀ k, v.ownBlock = some k → k < w.heap.size := by
  obtain ⟨g, cap, cur, fz, rfl, hg, _⟩ := h
  intro k hk
  simp [Value.ownBlock] at hk
  subst hk
  exact (Array.getElem?_eq_some_iff.1 hg).1
theorem BytesAt.kept {w w' : World} {v : Value} {xs : List UInt8} {row : Option Nat} (h : BytesAt w v xs) (hg : w.grownBy w' row) (hne : v.ownBlock ≠ row) : BytesAt w' v xs := by
  obtain ⟨g, cap, cur, fz, rfl, hgg, rest⟩ := h
  refine ⟨g, cap, cur, fz, rfl, ?_, rest⟩
  rw [hg.block g (Array.getElem?_eq_some_iff.1 hgg).1 (by simpa [Value.ownBlock] using hne)]
  exact hgg
theorem BytesAt.below {w w' : World} {v : Value} {xs : List UInt8} (h : BytesAt w v xs) (hb : Below w.heap.size w w') : BytesAt w' v xs := by
  obtain ⟨g, cap, cur, fz, rfl, hgg, rest⟩ := h
  refine ⟨g, cap, cur, fz, rfl, ?_, rest⟩
  rw [hb.block g (Array.getElem?_eq_some_iff.1 hgg).1]
  exact hgg
theorem BytesAt.drew {w : World} {v : Value} {xs : List UInt8} (h : BytesAt w v xs) : BytesAt w.drew v xs := h
theorem BytesAt.cells {w : World} {xs : List UInt8} {g n cap : Nat} (h : BytesAt w (.slice (some ⟨g, 0, none⟩) n cap) xs) : ∀ j u, (Lib.byteCells xs)[j]? = some u → w.cell? ((⟨g, 0, none⟩ : Addr).add j) = some u := by
  obtain ⟨g', cap, cur, fz, hv, hgg, _, _, _, _, htake⟩ := h
  injection hv with hv _ _
  injection hv with hv
  injection hv with hv
  subst hv
  intro j u hu
  have hadd : (⟨g, 0, none⟩ : Addr).add j = ⟨g, j, none⟩ := by unfold Addr.add; split <;> simp_all
  rw [hadd, cell_of_row w g j cur _ fz hgg]
  rw [← htake, List.getElem?_take] at hu
  split at hu
  · simpa using hu
  · cases hu
/-- it lies in no block of another kind -/
theorem BytesAt.ne {w : World} {v : Value} {xs : List UInt8} {b : Nat} {cs : Array Value} {T : TypeId} (h : BytesAt w v xs) (hb : Blk w b T cs) (hT : T ≠ 5) : v.ownBlock ≠ some b := by
  obtain ⟨g, cap, cur, fz, rfl, hg, _⟩ := h
  intro e
  simp only [Value.ownBlock, Option.some.injEq] at e
  subst e
  have hb : w.heap[g]? = _ := hb
  rw [hg] at hb
  simp only [Option.some.injEq, Obj.cells.injEq] at hb
  exact hT hb.2.1.symm
theorem byteCells_snoc (xs : List UInt8) (c : UInt8) : Lib.byteCells (xs ++ [c]) = Lib.byteCells xs ++ [.int .u8 (c.toNat : Int)] := by simp [Lib.byteCells]
theorem byteCells_len (xs : List UInt8) : (Lib.byteCells xs).length = xs.length := by simp [Lib.byteCells]

/-- 'append(v, c)' -/
theorem app_byte {w : World} {v : Value} {xs : List UInt8} (h : BytesAt w v xs) (hl : xs.length ≤ 1000000) (c : UInt8) :
    ∃ v' w', (Builtin.append_ #[42, 42] 42 #[v, .slice (some ⟨w.heap.size, 0, none⟩) 1 1]).run Tryz.prog (w.alloc (.cells #[.int .u8 (c.toNat : Int)] 5)) = .ok v' w' ∧ BytesAt w' v' (xs ++ [c]) ∧ w.grownBy w' v.ownBlock ∧ (∀ k, v'.ownBlock = some k → v.ownBlock = some k ∨ w.heap.size ≤ k) := by
  obtain ⟨i0, hi, hz0, hz1, hz2⟩ := info_parts infoU8A
  have hlt := h.lt
  have h0 := h
  obtain ⟨g, cap, cur, fz, rfl, hg, hfz, hn, hcm, hcs, htake⟩ := h
  have hgl : g < w.heap.size := hlt g rfl
  have hb1 : Below w.heap.size w (w.alloc (.cells #[.int .u8 (c.toNat : Int)] 5)) := (Below.refl _ _).alloc (Nat.le_refl _) _
  have hg1 : (w.alloc (.cells #[.int .u8 (c.toNat : Int)] 5)).heap[g]? = some (.cells cur 5 fz) := by rw [hb1.block g hgl]; exact hg
  have hnews : ∀ j u, ([Value.int .u8 (c.toNat : Int)] : List Value)[j]? = some u → (w.alloc (.cells #[.int .u8 (c.toNat : Int)] 5)).cell? ((⟨w.heap.size, 0, none⟩ : Addr).add j) = some u := fun j u hj => by
    rw [show (⟨w.heap.size, 0, none⟩ : Addr).add j = ⟨w.heap.size, j, none⟩ by unfold Addr.add; split <;> simp_all, World.cell?_alloc_new]; simpa using hj
  have h1 : ∀ u ∈ [Value.int .u8 (c.toNat : Int)], u.oneCell' = true := by intro u hu; simp at hu; subst hu; rfl
  have hxl : (Lib.byteCells xs ++ [Value.int .u8 (c.toNat : Int)]).length = (xs ++ [c]).length := by rw [← byteCells_snoc, byteCells_len]
  have hl1 : (xs ++ [c]).length = xs.length + 1 := by simp
  have hs1 := World.grownBy_alloc w (.cells #[.int .u8 (c.toNat : Int)] 5) (some g)
  generalize w.alloc (.cells #[.int .u8 (c.toNat : Int)] 5) = w1 at *
  by_cases hroom : xs.length + 1 ≤ cap
  · have hf := run_firstCells_some (P := Tryz.prog) w1 i0.size 1 ⟨w.heap.size, 0, none⟩ 1 1 [Value.int .u8 (c.toNat : Int)] (by rw [hz1]; rfl) hnews
    rw [hz1] at hf
    have hcell : w1.cell? ⟨g, xs.length, none⟩ = some (cur[xs.length]'(by omega)) := by rw [cell_of_row w1 g _ cur _ fz hg1]; exact Array.getElem?_eq_getElem (by omega)
    have hfro : w1.frozen? ⟨g, xs.length, none⟩ = false := by
      obtain ⟨lo, hi'⟩ := fz
      simp only [World.frozen?, hg1, Bool.and_eq_false_iff, decide_eq_false_iff_not]
      simp only at hfz
      omega
    have hadd : (⟨g, xs.length, none⟩ : Addr).add 0 = ⟨g, xs.length, none⟩ := by unfold Addr.add; split <;> simp_all
    have hst : (store ((⟨g, xs.length, none⟩ : Addr).add 0) (.int .u8 (c.toNat : Int))).run Tryz.prog w1 = .ok () (w1.setRow g (cur.setIfInBounds xs.length (.int .u8 (c.toNat : Int)))) := by
      rw [hadd, run_store Tryz.prog w1 _ _ _ (h1 _ (by simp)), hcell]
      simp [hfro, setCell_eq_setRow w1 g xs.length cur _ fz _ hg1]
    have hst2 : (storeCells ⟨g, xs.length, none⟩ [.int .u8 (c.toNat : Int)] 0).run Tryz.prog w1 = .ok () (w1.setRow g (cur.setIfInBounds xs.length (.int .u8 (c.toNat : Int)))) := by
      simp only [storeCells, Sem.run_bind, hst, Result.andThen_ok]
      rfl
    refine ⟨.slice (some ⟨g, 0, none⟩) (xs.length + 1) cap, w1.setRow g (cur.setIfInBounds xs.length (.int .u8 (c.toNat : Int))), ?_, ⟨g, cap, _, fz, by rw [hl1], setRow_heap w1 g cur _ _ _ hg1, ?_, by omega, hcm, by simp [hcs], ?_⟩, ?_⟩
    · simp [Builtin.append_, run_underlying Tryz.underlying42, sizeOf, typeInfo, hi, Builtin.lenOf, hroom, hf, hz1, Addr.add_lit, hst2]
    · omega
    · have e1 : (cur.setIfInBounds xs.length (Value.int .u8 (c.toNat : Int))).toList = cur.toList.set xs.length (.int .u8 (c.toNat : Int)) := Array.toList_setIfInBounds ..
      have e2 : (cur.toList.set xs.length (Value.int .u8 (c.toNat : Int)))[xs.length]? = some (.int .u8 (c.toNat : Int)) := List.getElem?_set_self (by simp; omega)
      rw [byteCells_snoc, ← htake, hl1, e1, List.take_add_one, List.take_set_of_le (Nat.le_refl _), e2]
      rfl
    · refine ⟨?_, fun k hk => .inl hk⟩
      show w.grownBy _ (some g)
      exact Lib.grownBy_trans hs1 ⟨rfl, rfl, rfl, by simp, fun k _ hk => setRow_other w1 g k _ (fun e => hk (by simp [e]))⟩
  · have hr := run_append_grow (P := Tryz.prog) w1 42 42 5 i0 (.int .u8 0) Tryz.underlying42 hi hz0 ⟨g, 0, none⟩ xs.length cap (Lib.byteCells xs) (by rw [hz1, byteCells_len, Nat.mul_one]) (BytesAt.cells (n := xs.length) (cap := cap) ⟨g, cap, cur, fz, rfl, hg1, hfz, hn, hcm, hcs, htake⟩) ⟨w.heap.size, 0, none⟩ 1 1 [.int .u8 (c.toNat : Int)] (by rw [hz1]; rfl) hnews (by omega) (by omega) (growslice_fits (by omega) (by rw [hz2]; omega))
    have hge := grownCap_ge w1 (xs.length + 1) cap 5
    have hcm2 : grownCap w1 (xs.length + 1) cap 5 ≤ maxLen := grownCap_le_maxLen w1 (xs.length + 1) cap 5 (by unfold maxLen; omega)
    refine ⟨_, _, hr, ⟨w1.heap.size, _, _, (0, 0), by rw [hl1], heap_alloc_new w1.drew _, .inl (Nat.zero_le _), by omega, hcm2, ?_, ?_⟩, ?_⟩
    · simp only [Array.size_append, List.size_toArray, size_zeroCells, byteCells_len, List.length_singleton]
      simp [Value.cells]
      omega
    · simp only [Array.toList_append, ← byteCells_snoc]
      rw [← byteCells_len (xs ++ [c])]
      exact List.take_left
    · refine ⟨?_, fun k hk => .inr (by have hs := hs1.size; simp [Value.ownBlock] at hk; omega)⟩
      show w.grownBy _ (some g)
      exact Lib.grownBy_trans hs1 ⟨rfl, rfl, rfl, by simp, fun k hk _ => heap_alloc_old w1.drew _ hk⟩
end Go.Proofs.YtkbihipgnlglbaaGreatDoor
