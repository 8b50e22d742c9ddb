/-
  The contracts of strings.SplitSeq at a separator of one byte, and of the iterator that it hands back. The contract of package token's List: the early ways, and the words for the loop. The contract of package token's List: the loop over the elements. The contracts of slices.Contains on texts, and of package token's Holds and Join. The reference of tokens (waypostref05): of, Is. The reference of tokens (waypostref05): blank, Trim, inner, Value. The reference of tokens (waypostref05): inner, Value, Lower, Same. The reference of tokens (waypostref05): Cut. The reference of tokens (waypostref05): Colon.
-/
import Derived.Test.YtencphfhpnljlaaGreatDoorWa
import Derived.Test.YtencphfhpnljlaaGreatDoorWb1
import Derived.RangeFuncNested
import Derived.RangeFuncBound
import Derived.RangeFuncCalls
import Derived.RangeFuncLeaves
import Derived.Shelf.Abstract
import Derived.Shelf.RegionOpen
import Derived.OwnWalkIn
import Derived.TacticsInMore
import Derived.LoopNIn
import Derived.LoopIn
import Derived.Maps.AppendAt
namespace Go.Proofs.YtencphfhpnljlaaGreatDoor

section
open Go.RowKit Go.Shelf
attribute [local go_sem] Oper.semAt_some

theorem SSeq_any (s : ByteArray) (c : UInt8) (w : World) :
    Calls Tryz.prog 66 #[.string s, .string ⟨#[c]⟩] w fun e w' => e = .returned (.func (.func 124) #[] #[.pointer (some ⟨w.heap.size + 1, 0, none⟩), .pointer (some ⟨w.heap.size, 0, none⟩), .pointer (some ⟨w.heap.size + 2, 0, none⟩)]) ∧
      w' = ((w.alloc (.cells #[.string s] 9)).alloc (.cells #[.string ⟨#[c]⟩] 9)).alloc (.cells #[.int .i64 0] 3) := by
  have cS : ∀ w, Calls Tryz.prog 98 #[.string s, .string ⟨#[c]⟩, .int .i64 0] w fun e w' => e = .returned (.func (.func 124) #[] #[.pointer (some ⟨w.heap.size + 1, 0, none⟩), .pointer (some ⟨w.heap.size, 0, none⟩), .pointer (some ⟨w.heap.size + 2, 0, none⟩)]) ∧
      w' = ((w.alloc (.cells #[.string s] 9)).alloc (.cells #[.string ⟨#[c]⟩] 9)).alloc (.cells #[.int .i64 0] 3) := by
    intro w
    go_enter Tryz.func98, Tryz.ntmps98
    go_wp2_with fail
    go_ret
    exact ⟨rfl, rfl⟩
  have CS := Lib.hid cS
  clear cS
  go_enter Tryz.func66, Tryz.ntmps66
  go_wp2_with fail
  (with_reducible refine (CS.out _).mono ?_); rintro e w1 ⟨rfl, rfl⟩
  go_wp2_with fail
  go_ret
  exact ⟨rfl, rfl⟩

theorem tw_all (p : UInt8 → Bool) (l : List UInt8) : ∀ b ∈ l.takeWhile p, p b = true := by
  induction l with
  | nil => simp
  | cons a l ih =>
    intro b hb
    rw [List.takeWhile_cons] at hb
    split at hb
    · rcases List.mem_cons.1 hb with rfl | hb
      · assumption
      · exact ih b hb
    · simp at hb
theorem split_miss (c : UInt8) (l : List UInt8) (h : cutB c l = (l, [], false)) : splitC c l = [l] := by
  refine split_none c l fun b hb => ?_
  have h1 : l.takeWhile (· != c) = l := congrArg Prod.fst h
  rw [← h1] at hb
  simpa using tw_all _ _ b hb
theorem split_hit (c : UInt8) (l a r : List UInt8) (e : l = a ++ c :: r) (h : cutB c l = (a, r, true)) : splitC c l = a :: splitC c r := by
  rw [e]
  refine split_at c a r fun b hb => ?_
  have h1 : l.takeWhile (· != c) = a := congrArg Prod.fst h
  rw [← h1] at hb
  simpa using tw_all _ _ b hb

/-- the three boxes of the iterator: the rest, the separator, how much of it is kept -/
def splitG (Bs : Nat) (s : ByteArray) (c : UInt8) (W : World) : Prop :=
  Boxed W Bs 9 (.string s) ∧ Boxed W (Bs + 1) 9 (.string ⟨#[c]⟩) ∧ Boxed W (Bs + 2) 3 (.int .i64 0)
/-- the iterator's own steps turn the box of the rest alone -/
def splitSt (Bs : Nat) (A B : World) : Prop := A.grownBy B (some Bs) ∧ KeepsOthers A B
/-- a round keeps the three boxes -/
def splitKp (Bs : Nat) (A B : World) : Prop := ∀ b, Bs ≤ b → b < Bs + 3 → ∀ o, A.heap[b]? = some o → B.heap[b]? = some o
def boxLen (Bs : Nat) (W : World) : Nat := match W.cell? ⟨Bs, 0, none⟩ with | some (.string u) => u.size | _ => 0
theorem splitKp_below {Bs : Nat} {W W' : World} (h : Below W.heap.size W W') : splitKp Bs W W' := fun b _ _ _ ho => (h.block b (Array.getElem?_eq_some_iff.1 ho).1).trans ho
theorem splitKp_set {Bs : Nat} (W : World) (p : Nat) (v : Value) (hp : p < Bs) : splitKp Bs W (W.setCell ⟨p, 0, none⟩ v) := fun b hb _ _ ho => (Below.heap_setCell _ _ _ b (by simp only; omega)).trans ho
theorem splitKp_grown {Bs : Nat} {W W' : World} {row : Option Nat} (h : W.grownBy W' row) (hr : ∀ g, row = some g → Bs + 3 ≤ g) : splitKp Bs W W' :=
  fun b _ hb _ ho => (h.block b (Array.getElem?_eq_some_iff.1 ho).1 (fun e => by have := hr b e.symm; omega)).trans ho
theorem splitKp_trans {Bs : Nat} {A B C : World} (h : splitKp Bs A B) (k : splitKp Bs B C) : splitKp Bs A C := fun b h1 h2 o ho => k b h1 h2 o (h b h1 h2 o ho)
theorem splitKp_put {Bs : Nat} (W : World) (l : Nat) (o : Obj) (hl : Bs + 3 ≤ l) : splitKp Bs W (W.putObj l o) := fun b _ hb _ ho => (World.putObj_heap_other (by omega)).trans ho
theorem splitG_alloc {Bs : Nat} {s : ByteArray} {c : UInt8} (W : World) (o : Obj) (h : splitG Bs s c W) : splitG Bs s c (W.alloc o) := ⟨h.1.alloc _, h.2.1.alloc _, h.2.2.alloc _⟩
theorem boxLen_eq {Bs : Nat} {W : World} {t : TypeId} {u : ByteArray} (h : Boxed W Bs t (.string u)) : boxLen Bs W = u.size := by
  unfold boxLen; rw [h.cell]

set_option maxRecDepth 100000 in
set_option maxHeartbeats 4000000 in
theorem split_st (n : Nat) (hn : 1 ≤ n) (Bs : Nat) (s : ByteArray) (c : UInt8) (hs : s.size ≤ 1000000) :
    SeqSt Fence.wide n Tryz.prog 124 #[.pointer (some ⟨Bs + 1, 0, none⟩), .pointer (some ⟨Bs, 0, none⟩), .pointer (some ⟨Bs + 2, 0, none⟩)] (fun x : ByteArray => #[Value.string x]) (splitG Bs s c) (splitSt Bs) (splitKp Bs)
      (fun xs => xs = (splitC c s.data.toList).map bs) (fun pre => pre <+: (splitC c s.data.toList).map bs) := by
  intro l J Jx W ⟨g0, g1, g2⟩ hJ hY h0
  have HJ := Lib.hid hJ
  have HY := Lib.hid hY
  clear hJ hY
  refine callsIn_of_wp Tryz.func124 rfl trivial ?_ rfl
  simp only [Tryz.ntmps124, List.size_toArray, List.length_cons, List.length_nil, Nat.reduceAdd, Nat.reduceSub, Array.replicate_succ, Array.replicate_zero, List.push_toArray, List.append_toArray, List.nil_append, List.cons_append]
  have c0 := g0.cell
  have c1 := g1.cell
  have c2 := g2.cell
  have CI := Lib.hid (fun (u : ByteArray) (w : World) => Tryz.strings_Index_one u c w)
  gi_wp2
  gi_loopw [7] (fun _ wr => ∃ (pre : List (List UInt8)) (u : ByteArray), Hid (splitC c s.data.toList = pre ++ splitC c u.data.toList) ∧ u.size ≤ 1000000 ∧ Boxed wr Bs 9 (.string u) ∧ Boxed wr (Bs + 1) 9 (.string ⟨#[c]⟩) ∧ Boxed wr (Bs + 2) 3 (.int .i64 0) ∧ J (pre.map bs) wr) (fun _ wr => boxLen Bs wr)
  case atStart => exact ⟨[], s, by simp [Hid], hs, g0, g1, g2, h0⟩
  case round =>
    obtain ⟨pre, u, HP, hu, b0, b1, b2, hj⟩ := hrel
    rename World => wr
    have d0 := b0.cell
    have d1 := b1.cell
    have d2 := b2.cell
    have f0 := b0.frozen
    have cI := CI.out u
    rcases idx_cases c u.data.toList with ⟨h1, h2⟩ | ⟨a, r, h1, h2, h3⟩
    · have hsp := split_miss c _ h2
      have HPx : Hid ((splitC c s.data.toList).map bs = pre.map bs ++ [u]) := by
        show _ = _
        rw [HP.out, hsp, List.map_append]; rfl
      rw [h1] at cI
      have CI' := Lib.hid cI
      clear cI h1 h2 hsp
      obtain ⟨fn, tmps, assign, body, hy, hR⟩ := HY.out (pre.map bs) u wr hj (by rw [HPx.out]; exact List.prefix_refl _)
      have HR := Lib.hid hR
      clear hR
      gi_wp2_with (refine ⟨trivial, ?_⟩; gi_at_call 126; refine (callsIn_wide.2 (CI'.out _)).mono ?_; rintro e w' ⟨rfl, rfl⟩)
      refine (HR.out).mono ?_
      rintro e W3 (⟨rfl, hJ3, hk3⟩ | ⟨rfl, hJx3⟩)
      · gi_wp2
        go_end0
        exact ⟨⟨_, rfl⟩, .inl ⟨_, HPx.out.symm, hJ3⟩⟩
      · gi_wp2
        go_end0
        exact ⟨⟨_, rfl⟩, .inr ⟨_, by rw [HPx.out]; exact List.prefix_refl _, hJx3⟩⟩
    · have hsp := split_hit c _ a r h1 h3
      have hl : a.length + 1 + r.length = u.size := by rw [← size_l, h1]; simp; omega
      have e1 : u.extract 0 a.length = bs a := ba_ext (by rw [extract_list, h1]; simp [bs])
      have e2 : u.extract (a.length + 1) u.size = bs r := ba_ext (by
        rw [extract_list, List.take_of_length_le (by rw [size_l]; omega), h1, show a ++ c :: r = (a ++ [c]) ++ r by simp, show a.length + 1 = (a ++ [c]).length by simp, List.drop_left]; rfl)
      have HPx : Hid (splitC c s.data.toList = (pre ++ [a]) ++ splitC c (bs r).data.toList) := by
        show _ = _
        rw [HP.out, hsp, bs_list]; simp
      have HPm : Hid (pre.map bs ++ [bs a] = (pre ++ [a]).map bs) := by show _ = _; simp
      rw [h2] at cI
      have CI' := Lib.hid cI
      have hpfx : pre.map bs ++ [bs a] <+: (splitC c s.data.toList).map bs := ⟨(splitC c (bs r).data.toList).map bs, by rw [HPx.out]; simp⟩
      have HSP := Lib.hid hpfx
      clear cI h1 h2 h3 hsp hpfx
      obtain ⟨fn, tmps, assign, body, hy, hR⟩ := HY.out (pre.map bs) (bs a) wr hj HSP.out
      have HR := Lib.hid hR
      clear hR
      have hrs : (bs r).size = r.length := bs_size r
      have HRS := Lib.hid hrs
      clear hrs
      gi_wp2_with (refine ⟨trivial, ?_⟩; gi_at_call 126; refine (callsIn_wide.2 (CI'.out _)).mono ?_; rintro e w' ⟨rfl, rfl⟩)
      refine (HR.out).mono ?_
      rintro e W3 (⟨rfl, hJ3, hk3⟩ | ⟨rfl, hJx3⟩)
      · have b0' : Boxed W3 Bs 9 (.string u) := hk3 Bs (by omega) (by omega) _ b0
        have b1' : Boxed W3 (Bs + 1) 9 (.string ⟨#[c]⟩) := hk3 (Bs + 1) (by omega) (by omega) _ b1
        have b2' : Boxed W3 (Bs + 2) 3 (.int .i64 0) := hk3 (Bs + 2) (by omega) (by omega) _ b2
        have k0 := b0'.cell
        have k1 := b1'.cell
        have k2 := b2'.cell
        have kf := b0'.frozen
        gi_wp2
        go_roundw
        case rel =>
          refine ⟨pre ++ [a], bs r, HPx, by rw [HRS.out]; omega, b0'.set _, b1'.kept (grownBy_setCell' _ _ _) (by simp), b2'.kept (grownBy_setCell' _ _ _) (by simp), ?_⟩
          rw [← HPm.out]
          exact HJ.out _ _ _ hJ3 ⟨grownBy_setCell' _ _ _, KeepsOthers.setCell _ _ _⟩
        case measure =>
          rw [boxLen_eq (b0'.set _), boxLen_eq b0, HRS.out]; omega
      · gi_wp2
        refine bodyPost_ret (results_none rfl _ _ _) rfl ?_
        exact ⟨⟨_, rfl⟩, .inr ⟨_, HSP.out, hJx3⟩⟩
end

section
open Go.RowKit Go.Shelf
attribute [local go_sem] Oper.semAt_some

/-- a list of texts handed back, and an error -/
def ListPost (t : List (List UInt8) × Nat) (w : World) (e : Ending) (w' : World) : Prop :=
  ∃ A cap, e = .returned (.tuple #[.slice A t.1.length cap, .int .i64 t.2]) ∧ Reads w' w'.heap.size 1 A t.1.length (strs t.1) ∧ Below w.heap.size w w'

end

section
open Go.RowKit Go.Shelf
attribute [local go_sem] Oper.semAt_some

theorem infoStr : (Tryz.prog.info? 9).map (fun i => (i.zero, i.size, i.bytes)) = some (some (.string .empty), 1, 16) := by kernel_rfl
def pickB (pre : List ByteArray) : List (List UInt8) := (pre.map (·.data.toList)).filterMap pickE
def okB (pre : List ByteArray) : Prop := ∀ x ∈ pre, badE x.data.toList = false

theorem pickB_snoc (pre : List ByteArray) (x : ByteArray) : pickB (pre ++ [x]) = pickB pre ++ (pickE x.data.toList).toList := by
  simp [pickB, List.filterMap_append, List.filterMap_cons]
  cases pickE x.data.toList <;> simp
theorem pickB_len (pre : List ByteArray) : (pickB pre).length ≤ pre.length := by
  unfold pickB; exact Nat.le_trans (List.length_filterMap_le _ _) (by simp)
theorem okB_snoc {pre : List ByteArray} {x : ByteArray} (h : okB pre) (hx : badE x.data.toList = false) : okB (pre ++ [x]) := by
  intro y hy
  rcases List.mem_append.1 hy with hy | hy
  · exact h y hy
  · rw [List.mem_singleton.1 hy]; exact hx

/-- between two rounds: the results' boxes as they were made, the box of what has been collected, what lay lies -/
def LI (w : World) (H : Nat) (pre : List ByteArray) (W : World) : Prop :=
  (okB pre ∧ Boxed W w.heap.size 51 (.slice none 0 0) ∧ Boxed W (w.heap.size + 1) 28 (.int .i64 0) ∧ H + 4 ≤ W.heap.size) ∧
  (∃ v, Boxed W H 51 v ∧ W.ownsRow (H + 4) 9 1 v (pickB pre).length (strs (pickB pre)) ∧ True) ∧ Below w.heap.size w W
/-- left by the return of the error -/
def LX (w : World) (c : Code) (pre : List ByteArray) (W : World) : Prop :=
  (c = .ret ∧ ¬ okB pre ∧ Boxed W w.heap.size 51 (.slice none 0 0) ∧ Boxed W (w.heap.size + 1) 28 (.int .i64 3)) ∧ Below w.heap.size w W
theorem boxed_own' {β : Type} (B : Nat) (t : TypeId) (v : β → Value) : Own (fun s W => Boxed W B t (v s)) := by
  intro s X Y row h hg hr
  exact h.kept hg fun e => by
    obtain ⟨o, ho, hc⟩ := hr B e.symm
    rw [show X.heap[B]? = _ from h] at ho; cases ho; cases hc
theorem LI_own (w : World) (H N : Nat) (hN : w.heap.size ≤ N) : OwnFrom N (LI w H) := by
  refine OwnFrom.and (Own.from (fun s X Y row h hg hr => ⟨h.1, boxed_own' (β := Unit) _ _ (fun _ => .slice none 0 0) () X Y row h.2.1 hg hr, boxed_own' (β := Unit) _ _ (fun _ => .int .i64 0) () X Y row h.2.2.1 hg hr, Nat.le_trans h.2.2.2 hg.size⟩) _)
    (OwnFrom.and (Own.from (holdsRow_own (H + 4) H 51 9 1 (fun pre => (pickB pre).length) (fun pre => strs (pickB pre)) (fun _ _ => True)) _) (ownFrom_below (Nat.le_refl _) hN))
theorem LX_own (w : World) (c : Code) (N : Nat) (hN : w.heap.size ≤ N) : OwnFrom N (LX w c) := by
  refine OwnFrom.and (Own.from (fun s X Y row h hg hr => ⟨h.1, h.2.1, boxed_own' (β := Unit) _ _ (fun _ => .slice none 0 0) () X Y row h.2.2.1 hg hr, boxed_own' (β := Unit) _ _ (fun _ => .int .i64 3) () X Y row h.2.2.2 hg hr⟩) _)
    (ownFrom_below (Nat.le_refl _) hN)
theorem LI_st (w : World) (H : Nat) (hH : w.heap.size + 1 < H) (pre : List ByteArray) (A B : World) (h : LI w H pre A) (hs : splitSt (H + 1) A B) : LI w H pre B := by
  obtain ⟨⟨h1, h2, h3, hz⟩, ⟨v, h4, h5, _⟩, h6⟩ := h
  have ne : ∀ {k : Nat}, k ≠ H + 1 → some k ≠ some (H + 1) := fun hk e => hk (by injection e)
  refine ⟨⟨h1, h2.kept hs.1 (ne (by omega)), h3.kept hs.1 (ne (by omega)), Nat.le_trans hz hs.1.size⟩, ⟨v, h4.kept hs.1 (ne (by omega)), h5.kept hs.1 (.inr ?_), trivial⟩, h6.grown hs.1 h6.size fun k e => by injection e; omega⟩
  intro e
  have := own_ge h5 _ e
  omega
theorem LI_below {w : World} {H : Nat} {pre pre' : List ByteArray} {A B : World} (h : LI w H pre A) (hb : Below A.heap.size A B) (hok : okB pre → okB pre') (hp : pickB pre' = pickB pre) : LI w H pre' B := by
  obtain ⟨⟨h1, h2, h3, hz⟩, ⟨v, h4, h5, _⟩, h6⟩ := h
  have kb : ∀ {k : Nat} {t : TypeId} {u : Value}, Boxed A k t u → Boxed B k t u := fun hk => (hb.block _ hk.lt).trans hk
  refine ⟨⟨hok h1, kb h2, kb h3, Nat.le_trans hz hb.size⟩, ⟨v, kb h4, ?_, trivial⟩, h6.trans (hb.mono h6.size)⟩
  rw [hp]
  exact h5.kept (only_of_below hb none) (by
    rcases h5.2 with ⟨rfl, _⟩ | ⟨g, cap, cur, rfl, _⟩
    · exact .inl rfl
    · exact .inr (by simp [Value.ownBlock]))
/-- one more token collected -/
theorem LI_add {w : World} {H : Nat} {pre : List ByteArray} {x : ByteArray} {A W5 : World} {v v' : Value} {y : List UInt8} (hH : w.heap.size + 1 < H) (h1 : okB pre) (h2 : Boxed A w.heap.size 51 (.slice none 0 0)) (h3 : Boxed A (w.heap.size + 1) 28 (.int .i64 0))
    (hz : H + 4 ≤ A.heap.size) (h4 : Boxed A H 51 v) (h5 : A.ownsRow (H + 4) 9 1 v (pickB pre).length (strs (pickB pre))) (h6 : Below w.heap.size w A) (hx : badE x.data.toList = false) (hp : pickE x.data.toList = some y)
    (hown : W5.ownsRow (H + 4) 9 1 v' ((pickB pre).length + 1) (strs (pickB pre) ++ [.string (bs y)])) (hg : A.grownBy W5 v.ownBlock) :
    Boxed W5 H 51 v ∧ KeepsFrom (H + 4) A (W5.setCell ⟨H, 0, none⟩ v') ∧ splitKp (H + 1) A (W5.setCell ⟨H, 0, none⟩ v') ∧ LI w H (pre ++ [x]) (W5.setCell ⟨H, 0, none⟩ v') := by
  have n2 := h2.not_row (show (51 : TypeId) ≠ 9 by decide) h5
  have n3 := h3.not_row (show (28 : TypeId) ≠ 9 by decide) h5
  have n4 := h4.not_row (show (51 : TypeId) ≠ 9 by decide) h5
  have b4 : Boxed W5 H 51 v := h4.kept hg n4
  have m4 := b4.not_row (show (51 : TypeId) ≠ 9 by decide) hown
  have ne : ∀ {k : Nat}, k ≠ H → some k ≠ some H := fun hk e => hk (by injection e)
  have e : pickB (pre ++ [x]) = pickB pre ++ [y] := by rw [pickB_snoc, hp]; rfl
  have hge := own_ge h5
  refine ⟨b4, ?_, ?_, ⟨⟨okB_snoc h1 hx, (h2.kept hg n2).kept (grownBy_setCell' _ _ _) (ne (by omega)), (h3.kept hg n3).kept (grownBy_setCell' _ _ _) (ne (by omega)), ?_⟩,
    ⟨v', b4.set v', ?_, trivial⟩, ?_⟩⟩
  · exact (keepsFrom_grown h5 hg).trans (keepsFrom_set _ _ _ _)
  · exact splitKp_trans (splitKp_grown hg fun g eg => by have := hge g eg; omega) (splitKp_set _ _ _ (by omega))
  · exact Nat.le_trans hz (Nat.le_trans hg.size (grownBy_setCell' W5 H v').size)
  · rw [e, strs_app, List.length_append]
    exact hown.kept (grownBy_setCell' W5 H v') (.inr m4.symm)
  · exact (h6.grown hg h6.size fun k ek => by have := hge k ek; omega).setCell (p := ⟨H, 0, none⟩) (by simp only; omega) v'

end

section
open Go.RowKit

end

section
open Go.RowKit

def oth : ByteArray := ⟨#[33, 35, 36, 37, 38, 39, 42, 43, 45, 46, 94, 95, 96, 124, 126]⟩
theorem oth_list : oth.data.toList = tokO := rfl
theorem tok_iff (n : Nat) : tokP n = (decide (48 ≤ n ∧ n ≤ 57 ∨ 65 ≤ n ∧ n ≤ 90 ∨ 97 ≤ n ∧ n ≤ 122) || inB tokO n) := by
  simp only [tokP, anyP, inR, tokR, List.any_cons, List.any_nil, Bool.or_false]
  congr 1
  simp only [Bool.decide_or]
theorem inB_take (l : List UInt8) (k : Nat) (hk : k < l.length) (n : Nat) : inB (l.take (k + 1)) n = (inB (l.take k) n || decide (n = l[k].toNat)) := by
  rw [List.take_succ_eq_append_getElem hk, inB_snoc]
theorem inB_mem (l : List UInt8) (k : Nat) (hk : k < l.length) (n : Nat) (h : n = l[k].toNat) : inB l n = true := by
  simp only [inB, List.any_eq_true]; exact ⟨l[k], List.getElem_mem hk, by simp [h]⟩

set_option maxRecDepth 100000 in
set_option maxHeartbeats 4000000 in
theorem rof (c : UInt8) (w : World) :
    Calls Tryz.prog 83 #[.int .u8 c.toNat] w fun e w' => e = .returned (.bool (tokB c)) ∧ w = w' := by
  unfold tokB
  have hc := c.toNat_lt
  obtain ⟨n, hn⟩ : ∃ n, c.toNat = n := ⟨_, rfl⟩
  rw [hn] at hc ⊢
  have h7 : (48 ≤ n ∧ n ≤ 57) ∨ (97 ≤ n ∧ n ≤ 122) ∨ (65 ≤ n ∧ n ≤ 90) ∨ n < 48 ∨ (57 < n ∧ n < 65) ∨ (90 < n ∧ n < 97) ∨ 122 < n := by omega
  by_cases hT : (48 ≤ n ∧ n ≤ 57) ∨ (97 ≤ n ∧ n ≤ 122) ∨ (65 ≤ n ∧ n ≤ 90)
  · have hv : tokP n = true := by rw [tok_iff, Bool.or_eq_true]; exact .inl (by simp; omega)
    rw [hv]
    clear h7
    rcases hT with ⟨h1, h2⟩ | ⟨h1, h2⟩ | ⟨h1, h2⟩
    all_goals (
      go_enter Tryz.func83, Tryz.ntmps83
      go_wp2_with fail
      go_ret
      exact ⟨rfl, rfl⟩)
  · have h4 : n < 48 ∨ (57 < n ∧ n < 65) ∨ (90 < n ∧ n < 97) ∨ 122 < n := by omega
    have hv : tokP n = inB tokO n := by
      rw [tok_iff]
      have : decide (48 ≤ n ∧ n ≤ 57 ∨ 65 ≤ n ∧ n ≤ 90 ∨ 97 ≤ n ∧ n ≤ 122) = false := by simp; omega
      rw [this, Bool.false_or]
    clear h7 hT
    rw [hv]
    obtain ⟨R, hR⟩ : ∃ R, inB tokO n = R := ⟨_, rfl⟩
    rw [hR]
    have HR := Lib.hid hR
    clear hR hv
    rcases h4 with h1 | ⟨h1, h2⟩ | ⟨h1, h2⟩ | h1
    all_goals (
      go_enter Tryz.func83, Tryz.ntmps83
      go_wp2_with fail
      go_loop [3] (fun i => ∃ k : Nat, i = .int .i64 k ∧ k ≤ 15 ∧ Hid (inB (tokO.take k) n = false)) (fun i => 15 - (intOf i).toNat)
      case atStart => exact ⟨0, rfl, by omega, hide rfl⟩
      case round =>
        obtain ⟨k, rfl, hk, HN⟩ := hrel
        by_cases hlt : k < 15
        · have hkt : k < tokO.length := hlt
          have hidx : ((⟨#[33, 35, 36, 37, 38, 39, 42, 43, 45, 46, 94, 95, 96, 124, 126]⟩ : ByteArray)[k]'hlt) = tokO[k] := rfl
          by_cases he : tokO[k].toNat = n
          · have hb : (((((⟨#[33, 35, 36, 37, 38, 39, 42, 43, 45, 46, 94, 95, 96, 124, 126]⟩ : ByteArray)[k]'hlt).toNat : Nat) : Int) == (n : Int)) = true := eqb_t (by rw [hidx]; omega)
            have hres : R = true := by rw [← HR.out]; exact inB_mem _ k hkt _ (by omega)
            subst hres
            go_wp2_with fail
            go_ret
            exact ⟨rfl, rfl⟩
          · have hb : (((((⟨#[33, 35, 36, 37, 38, 39, 42, 43, 45, 46, 94, 95, 96, 124, 126]⟩ : ByteArray)[k]'hlt).toNat : Nat) : Int) == (n : Int)) = false := eqb_f (by rw [hidx]; omega)
            go_wp2_with fail
            go_round
            case rel =>
              refine ⟨k + 1, by go_num, by omega, hide ?_⟩
              rw [inB_take _ _ hkt, HN.out]
              simp; omega
            case measure => simp [intOf]; omega
        · have hk15 : k = 15 := by omega
          subst hk15
          have hd : decide ((15 : Int) < 15) = false := by simp
          have hres : R = false := by rw [← HR.out]; exact HN.out
          subst hres
          go_wp2_with fail
          go_ret
          exact ⟨rfl, rfl⟩)

theorem isTok_iff (s : ByteArray) : isTok s.data.toList = (!(s.data.toList.isEmpty) && s.data.toList.all tokB) := rfl
theorem all_snoc_false (l : List UInt8) (k : Nat) (hk : k < l.length) (p : UInt8 → Bool) (h : p l[k] = false) : l.all p = false := by
  rw [List.all_eq_false]; exact ⟨l[k], List.getElem_mem hk, by simp [h]⟩

set_option maxRecDepth 100000 in
set_option maxHeartbeats 4000000 in
theorem rIs (s : ByteArray) (w : World) (hs : s.size ≤ 9223372036854775807) :
    Calls Tryz.prog 52 #[.string s] w fun e w' => e = .returned (.bool (isTok s.data.toList)) ∧ w = w' := by
  obtain ⟨R, hR⟩ : ∃ R, isTok s.data.toList = R := ⟨_, rfl⟩
  rw [hR]
  have HR := Lib.hid hR
  have CO := Lib.hid rof
  clear hR
  go_enter Tryz.func52, Tryz.ntmps52
  go_wp2_with fail
  go_loop [3] (fun i => ∃ k : Nat, i = .int .i64 k ∧ k ≤ s.size ∧ Hid (∀ b ∈ s.data.toList.take k, tokB b = true)) (fun i => s.size - (intOf i).toNat)
  case atStart => exact ⟨0, rfl, by omega, hide (by simp)⟩
  case round =>
    obtain ⟨k, rfl, hk, HT⟩ := hrel
    by_cases hlt : k < s.size
    · go_wp2_with fail
      (with_reducible refine (CO.out _ _).mono ?_); rintro e w1 ⟨rfl, rfl⟩
      rcases Bool.eq_false_or_eq_true (tokB s[k]) with ht | ht
      · rw [ht]
        go_wp2_with fail
        go_round
        case rel =>
          refine ⟨k + 1, by go_num, by omega, hide ?_⟩
          have hkl : k < s.data.toList.length := by rw [size_l]; omega
          rw [List.take_succ_eq_append_getElem hkl]
          intro b hb
          rcases List.mem_append.1 hb with hb | hb
          · exact HT.out b hb
          · rw [List.mem_singleton.1 hb]; exact ht
        case measure => simp [intOf]; omega
      · have hres : R = false := by
          rw [← HR.out, isTok_iff, all_snoc_false s.data.toList k (by rw [size_l]; omega) tokB ht]; simp
        rw [ht]
        subst hres
        go_wp2_with fail
        go_ret
        exact ⟨rfl, rfl⟩
    · have hkl : k = s.size := by omega
      subst hkl
      have hd : decide ((s.size : Int) < (s.size : Int)) = false := by simp
      have hall : s.data.toList.all tokB = true := by
        rw [List.all_eq_true]
        intro b hb
        exact HT.out b (by rw [List.take_of_length_le (by rw [size_l]; omega)]; exact hb)
      have hres : (!(s.toList.isEmpty)) = R := by rw [← HR.out, isTok_iff, hall, Lib.toList_data, Bool.and_true]
      go_wp2_with fail
      go_ret
      exact ⟨rfl, rfl⟩
end

section
open Go.RowKit

theorem isB_iff (b : UInt8) : isB b = true ↔ b.toNat = 32 ∨ b.toNat = 9 := by
  simp only [isB, Bool.or_eq_true, beq_iff_eq]
  constructor
  · rintro (h | h) <;> subst h
    · exact .inl rfl
    · exact .inr rfl
  · rintro (h | h)
    · exact .inl (UInt8.toNat_inj.1 h)
    · exact .inr (UInt8.toNat_inj.1 h)
theorem tail_list (u : ByteArray) : (u.extract 1 u.size).data.toList = u.data.toList.tail := by
  rw [Lib.extract_to_end, List.drop_one]
theorem init_list (u : ByteArray) : (u.extract 0 (u.size - 1)).data.toList = u.data.toList.dropLast := by
  rw [Lib.extract_data, List.dropLast_eq_take, size_l]
  simp
theorem head_drop (u : ByteArray) (h : 0 < u.size) (hb : isB u[0] = true) : u.data.toList.tail.dropWhile isB = u.data.toList.dropWhile isB := by
  have hl : 0 < u.data.toList.length := by rw [size_l]; exact h
  have e : u.data.toList = u[0] :: u.data.toList.tail := by
    rw [← List.cons_head_tail (List.ne_nil_of_length_pos hl)]
    congr 1
    rw [List.head_eq_getElem]; rfl
  conv => rhs; rw [e, List.dropWhile_cons, if_pos hb]
theorem head_stop (u : ByteArray) (h : 0 < u.size) (hb : ¬ isB u[0] = true) : u.data.toList.dropWhile isB = u.data.toList := by
  have hl : 0 < u.data.toList.length := by rw [size_l]; exact h
  have e : u.data.toList = u[0] :: u.data.toList.tail := by
    rw [← List.cons_head_tail (List.ne_nil_of_length_pos hl)]
    congr 1
    rw [List.head_eq_getElem]; rfl
  rw [e, List.dropWhile_cons, if_neg hb]
theorem last_eq (u : ByteArray) (h : 0 < u.size) : u.data.toList = u.data.toList.dropLast ++ [u[u.size - 1]] := by
  have hl : u.data.toList ≠ [] := List.ne_nil_of_length_pos (by rw [size_l]; exact h)
  conv => lhs; rw [← List.dropLast_concat_getLast hl]
  congr 2
  rw [List.getLast_eq_getElem]
  simp only [size_l]
  rfl
theorem trimR_snoc (l : List UInt8) (b : UInt8) : trimR (l ++ [b]) = if isB b = true then trimR l else l ++ [b] := by
  unfold trimR
  rw [List.reverse_append, List.reverse_singleton, List.singleton_append, List.dropWhile_cons]
  split
  · rfl
  · simp
theorem last_drop (u : ByteArray) (h : 0 < u.size) (hb : isB u[u.size - 1] = true) : trimR u.data.toList.dropLast = trimR u.data.toList := by
  conv => rhs; rw [last_eq u h, trimR_snoc, if_pos hb]
theorem last_stop (u : ByteArray) (h : 0 < u.size) (hb : ¬ isB u[u.size - 1] = true) : trimR u.data.toList = u.data.toList := by
  conv => lhs; rw [last_eq u h, trimR_snoc, if_neg hb]
  exact (last_eq u h).symm

def strLen : Value → Nat | .string u => u.size | _ => 0
theorem rblank (c : UInt8) (w : World) :
    Calls Tryz.prog 120 #[.int .u8 c.toNat] w fun e w' => e = .returned (.bool (isB c)) ∧ w = w' := by
  obtain ⟨R, hR⟩ : ∃ R, isB c = R := ⟨_, rfl⟩
  rw [hR]
  have hi := isB_iff c
  by_cases h32 : c.toNat = 32
  · have hb := eqb_t (show (c.toNat : Int) = 32 by omega)
    have hr : R = true := by rw [← hR]; exact hi.2 (.inl h32)
    subst hr
    clear h32 hi hR
    go_enter Tryz.func120, Tryz.ntmps120
    go_wp2_with fail
    go_ret
    exact ⟨rfl, rfl⟩
  · have hb := eqb_f (show (c.toNat : Int) ≠ 32 by omega)
    have hr : ((c.toNat : Int) == 9) = R := by
      by_cases h9 : c.toNat = 9
      · rw [eqb_t (show (c.toNat : Int) = 9 by omega), ← hR]; exact (hi.2 (.inr h9)).symm
      · rw [eqb_f (show (c.toNat : Int) ≠ 9 by omega), ← hR]
        cases h : isB c with
        | false => rfl
        | true => rcases hi.1 h with h | h <;> omega
    clear h32 hi hR
    go_enter Tryz.func120, Tryz.ntmps120
    go_wp2_with fail
    go_ret
    exact ⟨rfl, rfl⟩

set_option maxHeartbeats 4000000 in
theorem rTrim (s : ByteArray) (w : World) (hs : s.size ≤ 1000000) :
    Calls Tryz.prog 88 #[.string s] w fun e w' => e = .returned (.string (tr s)) ∧ w = w' := by
  obtain ⟨R, hR⟩ : ∃ R, tr s = R := ⟨_, rfl⟩
  have hRl : R.data.toList = trimR (s.data.toList.dropWhile isB) := by rw [← hR, ← trimL_comm]; rfl
  rw [hR]
  have HR := Lib.hid hRl
  have CB := Lib.hid rblank
  clear hR hRl
  go_enter Tryz.func88, Tryz.ntmps88
  go_wp2_with fail
  go_loop [0] (fun v => ∃ u : ByteArray, v = .string u ∧ u.size ≤ 1000000 ∧ Hid (u.data.toList.dropWhile isB = s.data.toList.dropWhile isB)) (fun v => strLen v)
  case atStart => exact ⟨s, rfl, hs, rfl⟩
  case round =>
    obtain ⟨u, rfl, hu, HU⟩ := hrel
    by_cases hstop : 0 < u.size ∧ ∃ h : 0 < u.size, isB u[0] = true
    · obtain ⟨hpos, _, hbl⟩ := hstop
      have he := emp_f (show u.size ≠ 0 by omega)
      have HN : Hid ((u.extract 1 u.size).data.toList.dropWhile isB = s.data.toList.dropWhile isB) := by
        show _ = _
        rw [tail_list, head_drop u hpos hbl]; exact HU.out
      have hsz : (u.extract 1 u.size).size = u.size - 1 := by rw [ByteArray.size_extract]; omega
      have HSZ := Lib.hid hsz
      clear hsz
      go_wp2_with fail
      (with_reducible refine (CB.out _ _).mono ?_); rintro e w1 ⟨rfl, rfl⟩
      rw [hbl]
      go_wp2_with fail
      go_round
      case rel => exact ⟨_, rfl, by rw [HSZ.out]; omega, HN⟩
      case measure => show (u.extract 1 u.size).size < u.size; rw [HSZ.out]; omega
    · have HE : Hid (u.data.toList = s.data.toList.dropWhile isB) := by
        show _ = _
        rw [← HU.out]
        by_cases hpos : 0 < u.size
        · exact (head_stop u hpos (fun h => hstop ⟨hpos, hpos, h⟩)).symm
        · rw [List.eq_nil_of_length_eq_zero (show u.data.toList.length = 0 by rw [size_l]; omega)]; rfl
      by_cases hpos : 0 < u.size
      all_goals
        first
          | (have he := emp_f (show u.size ≠ 0 by omega)
             have hnb : isB u[0] = false := by
               cases h : isB u[0] with
               | false => rfl
               | true => exact absurd ⟨hpos, hpos, h⟩ hstop
             clear hstop HU
             go_wp2_with fail
             (with_reducible refine (CB.out _ _).mono ?_); rintro e w1 ⟨rfl, rfl⟩
             rw [hnb]
             go_wp2_with fail
             clear he hnb)
          | (have he := emp_t (show u.size = 0 by omega)
             clear hstop HU
             go_wp2_with fail
             clear he)
        go_loop [0] (fun v => ∃ x : ByteArray, v = .string x ∧ x.size ≤ 1000000 ∧ Hid (trimR x.data.toList = R.data.toList)) (fun v => strLen v)
        case atStart => exact ⟨u, rfl, hu, by rw [HE.out]; exact HR.out.symm⟩
        case round =>
          obtain ⟨x, rfl, hx, HX⟩ := hrel
          by_cases hgo : 0 < x.size ∧ ∃ h : 0 < x.size, isB x[x.size - 1] = true
          · obtain ⟨hxp, _, hbl⟩ := hgo
            have hex := emp_f (show x.size ≠ 0 by omega)
            have HN : Hid (trimR (x.extract 0 (x.size - 1)).data.toList = R.data.toList) := by
              show _ = _
              rw [init_list, last_drop x hxp hbl]; exact HX.out
            have hsz : (x.extract 0 (x.size - 1)).size = x.size - 1 := by rw [ByteArray.size_extract]; omega
            have HSZ := Lib.hid hsz
            clear hsz
            go_wp2_with fail
            (with_reducible refine (CB.out _ _).mono ?_); rintro e w1 ⟨rfl, rfl⟩
            rw [hbl]
            go_wp2_with fail
            go_round
            case rel => exact ⟨_, rfl, by rw [HSZ.out]; omega, HN⟩
            case measure => show (x.extract 0 (x.size - 1)).size < x.size; rw [HSZ.out]; omega
          · have HF : Hid (x = R) := by
              show _ = _
              apply ba_ext
              rw [← HX.out]
              by_cases hxp : 0 < x.size
              · exact (last_stop x hxp (fun h => hgo ⟨hxp, hxp, h⟩)).symm
              · rw [List.eq_nil_of_length_eq_zero (show x.data.toList.length = 0 by rw [size_l]; omega)]; rfl
            by_cases hxp : 0 < x.size
            · have hex := emp_f (show x.size ≠ 0 by omega)
              have hnb : isB x[x.size - 1] = false := by
                cases h : isB x[x.size - 1] with
                | false => rfl
                | true => exact absurd ⟨hxp, hxp, h⟩ hgo
              clear hgo HX
              go_wp2_with fail
              (with_reducible refine (CB.out _ _).mono ?_); rintro e w1 ⟨rfl, rfl⟩
              rw [hnb]
              go_wp2_with fail
              go_ret
              exact ⟨ret_str HF.out, rfl⟩
            · have hex := emp_t (show x.size = 0 by omega)
              clear hgo HX
              go_wp2_with fail
              go_ret
              exact ⟨ret_str HF.out, rfl⟩
end

section
open Go.RowKit

def valB (b : UInt8) : Bool := valP b.toNat
theorem val_iff (n : Nat) : valP n = true ↔ n = 32 ∨ n = 9 ∨ 33 ≤ n ∧ n ≤ 126 ∨ 128 ≤ n ∧ n ≤ 255 := by
  simp only [valP, anyP, inR, valR, inB, valO, List.any_cons, List.any_nil, Bool.or_false, Bool.or_eq_true, decide_eq_true_eq]
  have h1 : (32 : UInt8).toNat = 32 := rfl
  have h2 : (9 : UInt8).toNat = 9 := rfl
  rw [h1, h2]
  omega

set_option maxRecDepth 100000 in
set_option maxHeartbeats 4000000 in
theorem rinner (s : ByteArray) (w : World) (hs : s.size ≤ 9223372036854775807) :
    Calls Tryz.prog 119 #[.string s] w fun e w' => e = .returned (.bool (s.data.toList.all valB)) ∧ w = w' := by
  obtain ⟨R, hR⟩ : ∃ R, s.data.toList.all valB = R := ⟨_, rfl⟩
  rw [hR]
  have HR := Lib.hid hR
  have CB := Lib.hid rblank
  clear hR
  go_enter Tryz.func119, Tryz.ntmps119
  go_wp2_with fail
  go_loop [3] (fun i => ∃ k : Nat, i = .int .i64 k ∧ k ≤ s.size ∧ Hid (∀ b ∈ s.data.toList.take k, valB b = true)) (fun i => s.size - (intOf i).toNat)
  case atStart => exact ⟨0, rfl, by omega, hide (by simp)⟩
  case round =>
    obtain ⟨k, rfl, hk, HT⟩ := hrel
    by_cases hlt : k < s.size
    · have hc8 := s[k].toNat_lt
      have hstep : valB s[k] = true → Hid (∀ b ∈ s.data.toList.take (k + 1), valB b = true) := fun ht => by
        have hkl : k < s.data.toList.length := by rw [size_l]; omega
        rw [List.take_succ_eq_append_getElem hkl]
        intro b hb
        rcases List.mem_append.1 hb with hb | hb
        · exact HT.out b hb
        · rw [List.mem_singleton.1 hb]; exact ht
      have hfall : valB s[k] = false → R = false := fun ht => by
        rw [← HR.out]; exact all_snoc_false s.data.toList k (by rw [size_l]; omega) valB ht
      have hvi := val_iff s[k].toNat
      have hbi := isB_iff s[k]
      go_wp2_with fail
      (with_reducible refine (CB.out _ _).mono ?_); rintro e w1 ⟨rfl, rfl⟩
      by_cases hbl : isB s[k] = true
      · have ht := hstep (hvi.2 (by have := hbi.1 hbl; omega))
        clear hstep hfall hvi hbi
        rw [hbl]
        go_wp2_with fail
        go_round
        case rel => exact ⟨k + 1, by go_num, by omega, ht⟩
        case measure => simp [intOf]; omega
      · have hbf : isB s[k] = false := by simpa using hbl
        have hnb : ¬ (s[k].toNat = 32 ∨ s[k].toNat = 9) := fun h => hbl (hbi.2 h)
        rw [hbf]
        by_cases h33 : s[k].toNat < 33
        · have hres : R = false := hfall (by
            cases h : valB s[k] with
            | false => rfl
            | true => have := hvi.1 h; omega)
          clear hstep hfall hvi hbi
          subst hres
          have hd : decide ((s[k].toNat : Int) < 33) = true := by simp; omega
          go_wp2_with fail
          go_ret
          exact ⟨rfl, rfl⟩
        · by_cases h127 : s[k].toNat = 127
          · have hres : R = false := hfall (by
              cases h : valB s[k] with
              | false => rfl
              | true => have := hvi.1 h; omega)
            have hb1 := eqb_t (show (s[k].toNat : Int) = 127 by omega)
            have hd : decide ((s[k].toNat : Int) < 33) = false := by simp; omega
            clear hstep hfall hvi hbi h127
            subst hres
            go_wp2_with fail
            go_ret
            exact ⟨rfl, rfl⟩
          · have ht := hstep (hvi.2 (by omega))
            have hb1 := eqb_f (show (s[k].toNat : Int) ≠ 127 by omega)
            have hd : decide ((s[k].toNat : Int) < 33) = false := by simp; omega
            clear hstep hfall hvi hbi h127
            go_wp2_with fail
            go_round
            case rel => exact ⟨k + 1, by go_num, by omega, ht⟩
            case measure => simp [intOf]; omega
    · have hkl : k = s.size := by omega
      subst hkl
      have hd : decide ((s.size : Int) < (s.size : Int)) = false := by simp
      have hres : R = true := by
        rw [← HR.out, List.all_eq_true]
        intro b hb
        exact HT.out b (by rw [List.take_of_length_le (by rw [size_l]; omega)]; exact hb)
      subst hres
      go_wp2_with fail
      go_ret
      exact ⟨rfl, rfl⟩

theorem rValue (s : ByteArray) (w : World) (hs : s.size ≤ 1000000) :
    Calls Tryz.prog 85 #[.string s] w fun e w' => e = .returned (.bool (isVal s.data.toList)) ∧ w = w' := by
  have cI := fun w => rinner s w (by omega)
  have cT := fun w => rTrim s w hs
  have hv : isVal s.data.toList = ((tr s).toList == s.toList && s.data.toList.all valB) := by rw [Lib.toList_data, Lib.toList_data]; rfl
  rw [hv]
  cases hi : s.data.toList.all valB
  all_goals (
    rw [hi] at cI
    have CI := Lib.hid cI
    have CT := Lib.hid cT
    clear cI cT hv hi
    go_enter Tryz.func85, Tryz.ntmps85
    go_wp2_with fail
    (with_reducible refine (CI.out _).mono ?_); rintro e w1 ⟨rfl, rfl⟩
    go_wp2_with fail
    first
      | (go_ret; exact ⟨ret_bool (by simp), rfl⟩)
      | ((with_reducible refine (CT.out _).mono ?_); rintro e w2 ⟨rfl, rfl⟩
         go_wp2_with fail
         go_ret
         exact ⟨ret_bool (by simp), rfl⟩))

set_option maxRecDepth 100000 in
set_option maxHeartbeats 4000000 in
theorem rLower (s : ByteArray) (w : World) (hs : s.size ≤ 9223372036854775807) :
    Calls Tryz.prog 121 #[.string s] w fun e w' => e = .returned (.string (low s)) ∧ Below w.heap.size w w' := by
  obtain ⟨cap, w1, hr, hb1, hsz, hbi, hfz⟩ := bytes_of_string (P := Tryz.prog) 9 50 5 Tryz.underlying9 Tryz.underlying50 Tryz.underlying5 w s
  have HBI := Lib.hid hbi
  have HFZ := Lib.hid hfz
  clear hbi hfz
  go_enter Tryz.func121, Tryz.ntmps121
  go_wp2_with fail
  go_loopw [4] (fun i wr => ∃ k : Nat, i = .int .i64 k ∧ k ≤ s.size ∧ Hid (LowK wr w.heap.size s k) ∧ Hid (∀ j, j < s.size → wr.frozen? ⟨w.heap.size, j, none⟩ = false) ∧ Below w.heap.size w wr) (fun i _ => s.size - (intOf i).toNat)
  case atStart => exact ⟨0, rfl, by omega, hide (fun j hj => by rw [if_neg (by omega)]; exact HBI.out j hj), hide HFZ.out, hb1⟩
  case round =>
    obtain ⟨k, rfl, hk, HL, HF, hb⟩ := hrel
    rename World => W0
    by_cases hlt : k < s.size
    · obtain ⟨c, hc⟩ : ∃ c, s[k] = c := ⟨_, rfl⟩
      have hcell : W0.cell? ⟨w.heap.size, k, none⟩ = some (.int .u8 c.toNat) := by rw [HL.out k hlt, if_neg (by omega), hc]
      have hfz := HF.out k hlt
      obtain ⟨n, hn⟩ : ∃ n, c.toNat = n := ⟨_, rfl⟩
      have hn8 : n < 256 := by rw [← hn]; exact c.toNat_lt
      rw [hn] at hcell
      by_cases hu : 65 ≤ n ∧ n ≤ 90
      · obtain ⟨h1, h2⟩ := hu
        go_wp2_with fail
        go_roundw
        case rel =>
          refine ⟨k + 1, by go_num, by omega, hide (HL.out.step hlt _ ?_), hide fun j hj => by rw [World.frozen?_setCell]; exact HF.out j hj, hb.setCell (by simp) _⟩
          rw [hc, lowB_up (by omega), hn]; simp
        case measure => simp [intOf]; omega
      · have hno : lowB s[k] = s[k] := lowB_no (by rw [hc, hn]; exact hu)
        have rest : 65 ≤ n ∧ 90 < n ∨ n < 65 := by omega
        rcases rest with ⟨h1, h2⟩ | h1
        all_goals (
          try have hd2 : decide ((n : Int) ≤ 90) = false := by simp; omega
          try have hd1 : decide ((65 : Int) ≤ (n : Int)) = false := by simp; omega
          go_wp2_with fail
          go_roundw
          case rel => exact ⟨k + 1, by go_num, by omega, hide (HL.out.skip hlt hno), HF, hb⟩
          case measure => simp [intOf]; omega)
    · have hkl : k = s.size := by omega
      subst hkl
      have hd : decide ((s.size : Int) < (s.size : Int)) = false := by simp
      have hll : (lowL s.data.toList).length = s.size := by rw [lowL, List.length_map, size_l]
      have hcv := run_convert_bytes_back (P := Tryz.prog) W0 50 9 5 ⟨w.heap.size, 0, none⟩ cap (lowL s.data.toList) Tryz.underlying50 Tryz.underlying5 Tryz.underlying9 (fun j hj => by
        rw [hll] at hj
        rw [Addr.add_lit, Nat.zero_add, HL.out j hj, if_pos hj]
        simp only [lowL, List.getElem_map]
        rfl)
      rw [hll] at hcv
      go_wp2_with fail
      go_ret
      exact ⟨rfl, hb⟩
theorem rSame (a b : ByteArray) (w : World) (ha : a.size ≤ 9223372036854775807) (hb : b.size ≤ 9223372036854775807) :
    Calls Tryz.prog 89 #[.string a, .string b] w fun e w' => e = .returned (.bool (lowL a.data.toList == lowL b.data.toList)) ∧ Below w.heap.size w w' := by
  have cA := fun w => rLower a w ha
  have cB := fun w => rLower b w hb
  have CA := Lib.hid cA
  have CB := Lib.hid cB
  clear cA cB
  go_enter Tryz.func89, Tryz.ntmps89
  go_wp2_with fail
  (with_reducible refine (CA.out _).mono ?_); rintro e w1 ⟨rfl, hb1⟩
  go_wp2_with fail
  (with_reducible refine (CB.out _).mono ?_); rintro e w2 ⟨rfl, hb2⟩
  go_wp2_with fail
  go_ret
  refine ⟨ret_bool ?_, hb1.trans (hb2.mono hb1.size)⟩
  rw [Lib.toList_data, Lib.toList_data]; rfl
end

section
open Go.RowKit

end

section
open Go.RowKit

theorem tokB_colon : tokB 58 = false := by decide +kernel
theorem takeW_stop (p : UInt8 → Bool) (a r : List UInt8) (c : UInt8) (h : ∀ b ∈ a, p b = true) (hc : p c = false) : (a ++ c :: r).takeWhile p = a ∧ (a ++ c :: r).dropWhile p = c :: r := by
  induction a with
  | nil => simp [hc]
  | cons b a ih =>
    obtain ⟨h1, h2⟩ := ih fun x hx => h x (by simp [hx])
    have hb := h b (by simp)
    simp [hb, h1, h2]
theorem dropW_head (p : UInt8 → Bool) (a r : List UInt8) (h : ∃ b ∈ a, p b = false) : ∃ b t, (a ++ r).dropWhile p = b :: t ∧ p b = false ∧ b ∈ a := by
  induction a with
  | nil => simp at h
  | cons x a ih =>
    by_cases hx : p x = true
    · obtain ⟨b, t, h1, h2, h3⟩ := ih (by
        obtain ⟨b, hb, hp⟩ := h
        rcases List.mem_cons.1 hb with rfl | hb
        · rw [hx] at hp; cases hp
        · exact ⟨b, hb, hp⟩)
      exact ⟨b, t, by rw [List.cons_append, List.dropWhile_cons, if_pos hx]; exact h1, h2, by simp [h3]⟩
    · have hx' : p x = false := by simpa using hx
      exact ⟨x, a ++ r, by rw [List.cons_append, List.dropWhile_cons, if_neg hx], hx', by simp⟩
theorem dropW_mem (p : UInt8 → Bool) (l : List UInt8) : ∀ b ∈ l.dropWhile p, b ∈ l := by
  intro b hb
  rw [← List.takeWhile_append_dropWhile (p := p) (l := l)]
  exact List.mem_append.2 (.inr hb)

/-- what the reference reads off what stands behind the first token -/
def colR (l : List UInt8) : List UInt8 × List UInt8 × Nat :=
  if (cutT l).2.2 = 0 ∧ (cutT l).2.1.head? = some 58 ∧ isVal (trimL (cutT l).2.1.tail) = true then ((cutT l).1, trimL (cutT l).2.1.tail, 0) else ([], [], 3)
theorem colR_eq (l : List UInt8) : colR l = colT l := by
  rcases idx_cases 58 l with ⟨h1, h2⟩ | ⟨a, r, h1, h2, h3⟩
  · have hno : ∀ b ∈ l, b ≠ 58 := by
      have ht : l.takeWhile (· != 58) = l := congrArg Prod.fst h2
      intro b hb
      rw [← ht] at hb
      simpa using tw_all _ _ b hb
    have hL : colT l = ([], [], 3) := by unfold colT; rw [h2]; simp
    rw [hL]
    unfold colR
    rw [if_neg]
    rintro ⟨he, hh, _⟩
    unfold cutT at he hh
    split at he
    · simp at he
    · rename_i hne
      rw [if_neg hne] at hh
      have : (58 : UInt8) ∈ l.dropWhile tokB := by
        cases e : l.dropWhile tokB with
        | nil => rw [e] at hh; simp at hh
        | cons x t => rw [e] at hh; simp at hh; subst hh; simp
      exact hno 58 (dropW_mem _ _ _ this) rfl
  · have hL : colT l = if isTok a && isVal (trimL r) then (a, trimL r, 0) else ([], [], 3) := by unfold colT; rw [h3]; simp
    rw [hL]
    have hno : ∀ b ∈ a, b ≠ 58 := by
      have ht : l.takeWhile (· != 58) = a := congrArg Prod.fst h3
      intro b hb
      rw [← ht] at hb
      simpa using tw_all _ _ b hb
    by_cases hall : ∀ b ∈ a, tokB b = true
    · obtain ⟨t1, t2⟩ := takeW_stop tokB a r 58 hall tokB_colon
      rw [← h1] at t1 t2
      by_cases ha : a = []
      · subst ha
        unfold colR cutT
        rw [t1]
        simp [isTok]
      · have hc : cutT l = (a, 58 :: r, 0) := by unfold cutT; rw [t1, t2, if_neg ha]
        have ht : isTok a = true := by
          unfold isTok
          rw [Bool.and_eq_true]
          exact ⟨by simpa using ha, List.all_eq_true.2 hall⟩
        unfold colR
        rw [hc, ht]
        simp
    · have hex : ∃ b ∈ a, tokB b = false := by
        refine Classical.byContradiction fun h => hall fun b hb => ?_
        cases e : tokB b with
        | true => rfl
        | false => exact absurd ⟨b, hb, e⟩ h
      have ht : isTok a = false := by
        unfold isTok
        obtain ⟨b, hb, hp⟩ := hex
        have : (a.all fun b => tokP b.toNat) = false := by
          rw [List.all_eq_false]; exact ⟨b, hb, by show ¬ tokB b = true; rw [hp]; simp⟩
        rw [this, Bool.and_false]
      rw [ht]
      simp only [Bool.false_and, Bool.false_eq_true, if_false]
      unfold colR
      rw [if_neg]
      rintro ⟨he, hh, _⟩
      unfold cutT at he hh
      split at he
      · simp at he
      · rename_i hne
        rw [if_neg hne] at hh
        obtain ⟨b, t, e1, e2, e3⟩ := dropW_head tokB a (58 :: r) hex
        rw [← h1] at e1
        rw [e1] at hh
        simp at hh
        exact hno b e3 hh

end
end Go.Proofs.YtencphfhpnljlaaGreatDoor
