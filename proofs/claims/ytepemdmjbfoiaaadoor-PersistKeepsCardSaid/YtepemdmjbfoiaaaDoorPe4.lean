/-
  Lists of events in memory; slices.All over them.
-/
import Derived.Test.YtepemdmjbfoiaaaDoorPe2
import Derived.Test.YtepemdmjbfoiaaaDoorRf
import Derived.RangeFuncNested
import Derived.RangeFuncLeaves
import Derived.Shelf.Abstract
import Derived.WalkKit
import Derived.OwnWalkIn
import Derived.TacticsInMore
import Derived.LoopNIn
import Derived.LoopIn
namespace Go.Proofs.YtepemdmjbfoiaaaDoor
open Go.RowKit Go.Shelf
attribute [local go_sem] Oper.semAt_some

abbrev Ev := Int × Int × Bool
def evsC (l : List Ev) : List Value := l.flatMap fun e => [.int .i64 e.1, .int .i64 e.2.1, .bool e.2.2]
theorem evsC_len (l : List Ev) : (evsC l).length = l.length * 3 := by
  unfold evsC
  induction l with
  | nil => rfl
  | cons f l ih => rw [List.flatMap_cons, List.length_append, ih]; simp; omega
theorem evsC_app (l m : List Ev) : evsC (l ++ m) = evsC l ++ evsC m := by simp [evsC]
theorem evsC_get (l : List Ev) (k : Nat) (h : k < l.length) : (evsC l)[k * 3]? = some (.int .i64 l[k].1) ∧ (evsC l)[k * 3 + 1]? = some (.int .i64 l[k].2.1) ∧ (evsC l)[k * 3 + 2]? = some (.bool l[k].2.2) := by
  induction l generalizing k with
  | nil => simp at h
  | cons f l ih =>
    unfold evsC at ih ⊢
    rw [List.flatMap_cons]
    cases k with
    | zero => exact ⟨rfl, rfl, rfl⟩
    | succ k =>
      have h' : k < l.length := by simpa using h
      have := ih k h'
      rw [List.getElem?_append_right (by simp; omega), List.getElem?_append_right (by simp; omega), List.getElem?_append_right (by simp; omega)]
      simpa [show (k + 1) * 3 - (0 + 1 + 1 + 1) = k * 3 by omega, show (k + 1) * 3 + 1 - (0 + 1 + 1 + 1) = k * 3 + 1 by omega, show (k + 1) * 3 + 2 - (0 + 1 + 1 + 1) = k * 3 + 2 by omega] using this
theorem evsC_one (l : List Ev) : ∀ u ∈ evsC l, u.oneCell' = true := by
  intro u hu
  obtain ⟨f, _, hf⟩ := List.mem_flatMap.1 hu
  simp at hf
  rcases hf with rfl | rfl | rfl <;> rfl
theorem Reads.elen {w : World} {B n : Nat} {A : Option Addr} {l : List Ev} (h : Reads w B 3 A n (evsC l)) : n = l.length := by
  have := h.1; rw [evsC_len] at this; omega
theorem Reads.ev {w : World} {B n : Nat} {A : Option Addr} {l : List Ev} (h : Reads w B 3 A n (evsC l)) (hp : 0 < l.length) :
    ∃ b o, A = some ⟨b, o, none⟩ ∧ b < B ∧ ∀ k, (hk : k < l.length) → w.cell? ⟨b, o + k * 3, none⟩ = some (.int .i64 l[k].1) ∧ w.cell? ⟨b, o + k * 3 + 1, none⟩ = some (.int .i64 l[k].2.1) ∧ w.cell? ⟨b, o + k * 3 + 2, none⟩ = some (.bool l[k].2.2) := by
  have hn := h.elen
  obtain ⟨ad, e, hb, hc⟩ := h.2 (by omega)
  obtain ⟨b, o, s⟩ := ad
  have hs : s = none := by
    cases s with
    | none => rfl
    | some q =>
      have h0 := hc 0 _ (evsC_get l 0 (by omega)).1
      simp only [Addr.add, if_true] at h0
      unfold World.cell? at h0
      simp only [Option.isSome_some, if_true] at h0
      split at h0 <;> simp at h0
  subst hs
  refine ⟨b, o, e, hb, fun k hk => ?_⟩
  obtain ⟨g1, g2, g3⟩ := evsC_get l k hk
  have c1 := hc _ _ g1
  have c2 := hc _ _ g2
  have c3 := hc _ _ g3
  rw [Addr.add_lit] at c1 c2 c3
  exact ⟨c1, by rw [Nat.add_assoc]; exact c2, by rw [Nat.add_assoc]; exact c3⟩

/-- what has come when k rounds are over -/
def upto {α : Type} (f : Nat → α) (k : Nat) : List α := (List.range k).map f
theorem upto_succ {α : Type} (f : Nat → α) (k : Nat) : upto f (k + 1) = upto f k ++ [f k] := by simp [upto, List.range_succ]
theorem upto_length {α : Type} (f : Nat → α) (k : Nat) : (upto f k).length = k := by simp [upto]

set_option maxRecDepth 100000 in
set_option maxHeartbeats 4000000 in
theorem all1_in (F : Fence) (n : Nat) (h8 : F.fn 150) (hro : F.round = none) (hn : 1 ≤ n) (l Bs n₀ b off len cap : Nat) (zs : Nat → Ev) (hreach : len ≤ 1000000) (hb : b < n₀) (J Jx : List (Nat × Ev) → World → Prop)
    (hJ : ∀ s A o, J s A → J s (A.alloc o)) (W : World) (hn₀ : n₀ ≤ W.heap.size)
    (hY : ∀ pre x W, J pre W → pre.length < len → YieldAt F (n - 1) Tryd.prog l #[.int .i64 (x.1 : Int), .agg #[.int .i64 x.2.1, .int .i64 x.2.2.1, .bool x.2.2.2]] W fun e W' =>
      (e = .returned (.bool true) ∧ J (pre ++ [x]) W' ∧ Below n₀ W W') ∨ (e = .returned (.bool false) ∧ Jx (pre ++ [x]) W'))
    (hBs : W.cell? ⟨Bs, 0, none⟩ = some (.slice (some ⟨b, off, none⟩) len cap))
    (hc : ∀ j, j < len → W.cell? ⟨b, off + j * 3, none⟩ = some (.int .i64 (zs j).1) ∧ W.cell? ⟨b, off + j * 3 + 1, none⟩ = some (.int .i64 (zs j).2.1) ∧ W.cell? ⟨b, off + j * 3 + 2, none⟩ = some (.bool (zs j).2.2)) (h0 : J [] W) :
    CallsIn F n Tryd.prog 150 #[.func (.yield l) #[] #[], .pointer (some ⟨Bs, 0, none⟩)] W fun e W' => (∃ v, e = .returned v) ∧
      ((∃ ys, ys = upto (fun j => (j, zs j)) len ∧ J ys W') ∨ (∃ pre, (∃ k, k ≤ len ∧ pre = upto (fun j => (j, zs j)) k) ∧ Jx pre W')) := by
  have HY := Lib.hid hY
  have HJ := Lib.hid hJ
  have HC := Lib.hid hc
  clear hY hJ hc
  refine callsIn_of_wp Tryd.func150 rfl h8 ?_ hro
  simp only [Tryd.ntmps150, List.size_toArray, List.length_cons, List.length_nil, Nat.reduceAdd, Nat.reduceSub, Array.replicate_succ, Array.replicate_zero, List.push_toArray, List.append_toArray, List.nil_append, List.cons_append]
  gi_wp2
  gi_loopw [7] (fun i wr => ∃ k : Nat, k ≤ len ∧ i = .int .i64 k ∧ Hid (J (upto (fun j => (j, zs j)) k) wr) ∧ Below n₀ W wr)
    (fun i _ => len - (intOf i).toNat)
  case atStart => exact ⟨0, Nat.zero_le _, rfl, Lib.hid h0, Below.refl _ _⟩
  case round =>
    obtain ⟨k, hk, rfl, hJs, hnx⟩ := hrel
    by_cases hlt : k < len
    · obtain ⟨q0, q1, q2⟩ := HC.out k hlt
      have c0 := (hnx.cell (p := ⟨b, off + k * 3, none⟩) hb).trans q0
      have c1 := (hnx.cell (p := ⟨b, off + k * 3 + 1, none⟩) hb).trans q1
      have c2 := (hnx.cell (p := ⟨b, off + k * 3 + 2, none⟩) hb).trans q2
      obtain ⟨z, hz⟩ : ∃ z, zs k = z := ⟨_, rfl⟩
      rw [hz] at c0 c1 c2
      have HS := Lib.hid (And.intro (upto_succ (fun j => (j, zs j)) k) hz)
      obtain ⟨fn, tmps, assign, body, hy, hR⟩ := HY.out _ (k, z) _ (HJ.out _ _ (.cells #[.int .i64 z.1, .int .i64 z.2.1, .bool z.2.2] 81) hJs.out) (by rw [upto_length]; exact hlt)
      dsimp only at hy
      have HR := Lib.hid hR
      clear q0 q1 q2 hz hR
      gi_wp2
      refine HR.out.mono ?_
      rintro e W3 (⟨rfl, hJ3, hk3⟩ | ⟨rfl, hJx3⟩)
      · have hJ4 : J (upto (fun j => (j, zs j)) (k + 1)) W3 := by rw [HS.out.1, HS.out.2]; exact hJ3
        have hb4 := (hnx.alloc (Nat.le_trans hn₀ hnx.size) _).trans hk3
        have H4 := Lib.hid (And.intro hJ4 hb4)
        clear hJ3 hk3 hJ4 hb4
        gi_wp2
        go_roundw
        case rel => exact ⟨k + 1, by omega, by simp, Lib.hid H4.out.1, H4.out.2⟩
        case measure => simp [intOf]; omega
      · have hJ4 : Jx (upto (fun j => (j, zs j)) (k + 1)) W3 := by rw [HS.out.1, HS.out.2]; exact hJx3
        have H4 := Lib.hid hJ4
        clear hJx3 hJ4
        gi_wp2
        refine bodyPost_ret (results_none rfl _ _ _) rfl ?_
        exact ⟨⟨_, rfl⟩, .inr ⟨_, ⟨k + 1, by omega, rfl⟩, H4.out⟩⟩
    · obtain rfl : k = len := by omega
      gi_wp2
      go_end0
      exact ⟨⟨_, rfl⟩, .inl ⟨_, rfl, hJs.out⟩⟩

set_option maxRecDepth 100000 in
set_option maxHeartbeats 1000000 in
theorem all1_nil_in (F : Fence) (n : Nat) (h8 : F.fn 150) (hro : F.round = none) (l Bs c : Nat) (A : Option Addr) (J : List (Nat × Ev) → World → Prop) (W : World) (hBs : W.cell? ⟨Bs, 0, none⟩ = some (.slice A 0 c)) (h0 : J [] W) :
    CallsIn F n Tryd.prog 150 #[.func (.yield l) #[] #[], .pointer (some ⟨Bs, 0, none⟩)] W fun e W' => (∃ v, e = .returned v) ∧ J [] W' := by
  refine callsIn_of_wp Tryd.func150 rfl h8 ?_ hro
  simp only [Tryd.ntmps150, List.size_toArray, List.length_cons, List.length_nil, Nat.reduceAdd, Nat.reduceSub, Array.replicate_succ, Array.replicate_zero, List.push_toArray, List.append_toArray, List.nil_append, List.cons_append]
  gi_wp2
  gi_loopw [7] (fun i wr => i = .int .i64 0 ∧ J [] wr) (fun _ _ => 0)
  case atStart => exact ⟨rfl, h0⟩
  case round =>
    obtain ⟨rfl, hJs⟩ := hrel
    gi_wp2
    go_end0
    exact ⟨⟨_, rfl⟩, hJs⟩

set_option maxHeartbeats 1000000 in
theorem all_in (F : Fence) (n : Nat) (h6 : F.fn 124) (hro : F.round = none) (a : Option Addr) (len cap : Nat) (w : World) :
    CallsIn F n Tryd.prog 124 #[.slice a len cap] w fun e w' => e = .returned (.func (.func 150) #[] #[.pointer (some ⟨w.heap.size, 0, none⟩)]) ∧ w' = w.alloc (.cells #[.slice a len cap] 72) := by
  refine callsIn_of_wp Tryd.func124 rfl h6 ?_ hro
  simp only [Tryd.ntmps124, List.size_toArray, List.length_cons, List.length_nil, Nat.reduceAdd, Nat.reduceSub, Array.replicate_succ, Array.replicate_zero, List.push_toArray, List.append_toArray, List.nil_append, List.cons_append]
  gi_wp2
  go_ret
  exact ⟨rfl, rfl⟩

/-- the k-th event of a list -/
def evAt (l : List Ev) (k : Nat) : Ev := l.getD k (0, 0, false)
theorem evAt_lt {l : List Ev} {k : Nat} (h : k < l.length) : evAt l k = l[k] := by simp [evAt, List.getD_eq_getElem?_getD, h]
theorem all_stops (F : Fence) (n : Nat) (h8 : F.fn 150) (hro : F.round = none) (hn : 1 ≤ n) (Bs n₀ c : Nat) (A : Option Addr) (l : List Ev) (hreach : l.length ≤ 1000000) (w : World) (hBs : Bs < w.heap.size) (hn₀ : n₀ ≤ w.heap.size)
    (hc : w.cell? ⟨Bs, 0, none⟩ = some (.slice A l.length c)) (hr : Reads w n₀ 3 A l.length (evsC l)) :
    SeqStopsK F n Tryd.prog 150 #[.pointer (some ⟨Bs, 0, none⟩)] (fun x : Nat × Ev => #[Value.int .i64 (x.1 : Int), .agg #[.int .i64 x.2.1, .int .i64 x.2.2.1, .bool x.2.2.2]]) (Below n₀) (fun ys => ys = upto (fun j => (j, evAt l j)) l.length)
      (fun pre => ∃ k, k ≤ l.length ∧ pre = upto (fun j => (j, evAt l j)) k) l.length w := fun q J Jx W hW hJa _ hY h0 => by
  have hc' := (hW.cell (p := ⟨Bs, 0, none⟩) hBs).trans hc
  have hr' := hr.below (hW.mono hn₀)
  by_cases hp : l.length = 0
  · obtain rfl := List.eq_nil_of_length_eq_zero hp
    exact (all1_nil_in F n h8 hro q Bs c A J W hc' h0).mono fun e W' ⟨he, hj⟩ => ⟨he, .inl ⟨_, rfl, hj⟩⟩
  · obtain ⟨b, o, rfl, hb, hcs⟩ := hr'.ev (by omega)
    exact all1_in F n h8 hro hn q Bs n₀ b o l.length c (evAt l) hreach hb J Jx (fun s X o hs => hJa s X _ none hs (World.grownBy_alloc X o none) (fun r e => by cases e)) W (Nat.le_trans hn₀ hW.size) hY hc' (fun j hj => by rw [evAt_lt hj]; exact hcs j hj) h0
end Go.Proofs.YtepemdmjbfoiaaaDoor
