/-
  The contracts of strings.SplitSeq at a separator of one byte, and of the iterator that it hands back.
-/
import Derived.Test.YtpdohlnobbimaaaDoorRf
import Derived.Test.YtpdohlnobbimaaaDoorLst
import Derived.RangeFuncNested
import Derived.RangeFuncBound
import Derived.RangeFuncCalls
import Derived.RangeFuncLeaves
import Derived.Shelf.Abstract
import Derived.Shelf.RegionOpen
import Derived.OwnWalkIn
import Derived.TacticsInMore
import Derived.LoopNIn
import Derived.LoopIn
namespace Go.Proofs.YtpdohlnobbimaaaDoor
open Go.RowKit Go.Shelf
attribute [local go_sem] Oper.semAt_some

theorem SSeq_any (s : ByteArray) (c : UInt8) (w : World) :
    Calls Tryd.prog 87 #[.string s, .string ⟨#[c]⟩] w fun e w' => e = .returned (.func (.func 115) #[] #[.pointer (some ⟨w.heap.size + 1, 0, none⟩), .pointer (some ⟨w.heap.size, 0, none⟩), .pointer (some ⟨w.heap.size + 2, 0, none⟩)]) ∧
      w' = ((w.alloc (.cells #[.string s] 9)).alloc (.cells #[.string ⟨#[c]⟩] 9)).alloc (.cells #[.int .i64 0] 3) := by
  have cS : ∀ w, Calls Tryd.prog 99 #[.string s, .string ⟨#[c]⟩, .int .i64 0] w fun e w' => e = .returned (.func (.func 115) #[] #[.pointer (some ⟨w.heap.size + 1, 0, none⟩), .pointer (some ⟨w.heap.size, 0, none⟩), .pointer (some ⟨w.heap.size + 2, 0, none⟩)]) ∧
      w' = ((w.alloc (.cells #[.string s] 9)).alloc (.cells #[.string ⟨#[c]⟩] 9)).alloc (.cells #[.int .i64 0] 3) := by
    intro w
    go_enter Tryd.func99, Tryd.ntmps99
    go_wp2_with fail
    go_ret
    exact ⟨rfl, rfl⟩
  have CS := Lib.hid cS
  clear cS
  go_enter Tryd.func87, Tryd.ntmps87
  go_wp2_with fail
  (with_reducible refine (CS.out _).mono ?_); rintro e w1 ⟨rfl, rfl⟩
  go_wp2_with fail
  go_ret
  exact ⟨rfl, rfl⟩

theorem tw_all (p : UInt8 → Bool) (l : List UInt8) : ∀ b ∈ l.takeWhile p, p b = true := by
  induction l with
  | nil => simp
  | cons a l ih =>
    intro b hb
    rw [List.takeWhile_cons] at hb
    split at hb
    · rcases List.mem_cons.1 hb with rfl | hb
      · assumption
      · exact ih b hb
    · simp at hb
theorem split_miss (c : UInt8) (l : List UInt8) (h : cutB c l = (l, [], false)) : splitC c l = [l] := by
  refine split_none c l fun b hb => ?_
  have h1 : l.takeWhile (· != c) = l := congrArg Prod.fst h
  rw [← h1] at hb
  simpa using tw_all _ _ b hb
theorem split_hit (c : UInt8) (l a r : List UInt8) (e : l = a ++ c :: r) (h : cutB c l = (a, r, true)) : splitC c l = a :: splitC c r := by
  rw [e]
  refine split_at c a r fun b hb => ?_
  have h1 : l.takeWhile (· != c) = a := congrArg Prod.fst h
  rw [← h1] at hb
  simpa using tw_all _ _ b hb

/-- the three boxes of the iterator: the rest, the separator, how much of it is kept -/
def splitG (Bs : Nat) (s : ByteArray) (c : UInt8) (W : World) : Prop :=
  Boxed W Bs 9 (.string s) ∧ Boxed W (Bs + 1) 9 (.string ⟨#[c]⟩) ∧ Boxed W (Bs + 2) 3 (.int .i64 0)
/-- the iterator's own steps turn the box of the rest alone -/
def splitSt (Bs : Nat) (A B : World) : Prop := A.grownBy B (some Bs) ∧ KeepsOthers A B
/-- a round keeps the three boxes -/
def splitKp (Bs : Nat) (A B : World) : Prop := ∀ b, Bs ≤ b → b < Bs + 3 → ∀ o, A.heap[b]? = some o → B.heap[b]? = some o
def boxLen (Bs : Nat) (W : World) : Nat := match W.cell? ⟨Bs, 0, none⟩ with | some (.string u) => u.size | _ => 0
theorem splitKp_below {Bs : Nat} {W W' : World} (h : Below W.heap.size W W') : splitKp Bs W W' := fun b _ _ _ ho => (h.block b (Array.getElem?_eq_some_iff.1 ho).1).trans ho
theorem splitKp_set {Bs : Nat} (W : World) (p : Nat) (v : Value) (hp : p < Bs) : splitKp Bs W (W.setCell ⟨p, 0, none⟩ v) := fun b hb _ _ ho => (Below.heap_setCell _ _ _ b (by simp only; omega)).trans ho
theorem splitKp_grown {Bs : Nat} {W W' : World} {row : Option Nat} (h : W.grownBy W' row) (hr : ∀ g, row = some g → Bs + 3 ≤ g) : splitKp Bs W W' :=
  fun b _ hb _ ho => (h.block b (Array.getElem?_eq_some_iff.1 ho).1 (fun e => by have := hr b e.symm; omega)).trans ho
theorem splitKp_trans {Bs : Nat} {A B C : World} (h : splitKp Bs A B) (k : splitKp Bs B C) : splitKp Bs A C := fun b h1 h2 o ho => k b h1 h2 o (h b h1 h2 o ho)
theorem splitKp_put {Bs : Nat} (W : World) (l : Nat) (o : Obj) (hl : Bs + 3 ≤ l) : splitKp Bs W (W.putObj l o) := fun b _ hb _ ho => (World.putObj_heap_other (by omega)).trans ho
theorem splitG_alloc {Bs : Nat} {s : ByteArray} {c : UInt8} (W : World) (o : Obj) (h : splitG Bs s c W) : splitG Bs s c (W.alloc o) := ⟨h.1.alloc _, h.2.1.alloc _, h.2.2.alloc _⟩
theorem boxLen_eq {Bs : Nat} {W : World} {t : TypeId} {u : ByteArray} (h : Boxed W Bs t (.string u)) : boxLen Bs W = u.size := by
  unfold boxLen; rw [h.cell]

set_option maxRecDepth 100000 in
set_option maxHeartbeats 4000000 in
theorem split_st (n : Nat) (hn : 1 ≤ n) (Bs : Nat) (s : ByteArray) (c : UInt8) (hs : s.size ≤ 1000000) :
    SeqSt Fence.wide n Tryd.prog 115 #[.pointer (some ⟨Bs + 1, 0, none⟩), .pointer (some ⟨Bs, 0, none⟩), .pointer (some ⟨Bs + 2, 0, none⟩)] (fun x : ByteArray => #[Value.string x]) (splitG Bs s c) (splitSt Bs) (splitKp Bs)
      (fun xs => xs = (splitC c s.data.toList).map bs) (fun pre => pre <+: (splitC c s.data.toList).map bs) := by
  intro l J Jx W ⟨g0, g1, g2⟩ hJ hY h0
  have HJ := Lib.hid hJ
  have HY := Lib.hid hY
  clear hJ hY
  refine callsIn_of_wp Tryd.func115 rfl trivial ?_ rfl
  simp only [Tryd.ntmps115, List.size_toArray, List.length_cons, List.length_nil, Nat.reduceAdd, Nat.reduceSub, Array.replicate_succ, Array.replicate_zero, List.push_toArray, List.append_toArray, List.nil_append, List.cons_append]
  have c0 := g0.cell
  have c1 := g1.cell
  have c2 := g2.cell
  have CI := Lib.hid (fun (u : ByteArray) (w : World) => Tryd.strings_Index_one u c w)
  gi_wp2
  gi_loopw [7] (fun _ wr => ∃ (pre : List (List UInt8)) (u : ByteArray), Hid (splitC c s.data.toList = pre ++ splitC c u.data.toList) ∧ u.size ≤ 1000000 ∧ Boxed wr Bs 9 (.string u) ∧ Boxed wr (Bs + 1) 9 (.string ⟨#[c]⟩) ∧ Boxed wr (Bs + 2) 3 (.int .i64 0) ∧ J (pre.map bs) wr) (fun _ wr => boxLen Bs wr)
  case atStart => exact ⟨[], s, by simp [Hid], hs, g0, g1, g2, h0⟩
  case round =>
    obtain ⟨pre, u, HP, hu, b0, b1, b2, hj⟩ := hrel
    rename World => wr
    have d0 := b0.cell
    have d1 := b1.cell
    have d2 := b2.cell
    have f0 := b0.frozen
    have cI := CI.out u
    rcases idx_cases c u.data.toList with ⟨h1, h2⟩ | ⟨a, r, h1, h2, h3⟩
    · have hsp := split_miss c _ h2
      have HPx : Hid ((splitC c s.data.toList).map bs = pre.map bs ++ [u]) := by
        show _ = _
        rw [HP.out, hsp, List.map_append]; rfl
      rw [h1] at cI
      have CI' := Lib.hid cI
      clear cI h1 h2 hsp
      obtain ⟨fn, tmps, assign, body, hy, hR⟩ := HY.out (pre.map bs) u wr hj (by rw [HPx.out]; exact List.prefix_refl _)
      have HR := Lib.hid hR
      clear hR
      gi_wp2_with (refine ⟨trivial, ?_⟩; gi_at_call 117; refine (callsIn_wide.2 (CI'.out _)).mono ?_; rintro e w' ⟨rfl, rfl⟩)
      refine (HR.out).mono ?_
      rintro e W3 (⟨rfl, hJ3, hk3⟩ | ⟨rfl, hJx3⟩)
      · gi_wp2
        go_end0
        exact ⟨⟨_, rfl⟩, .inl ⟨_, HPx.out.symm, hJ3⟩⟩
      · gi_wp2
        go_end0
        exact ⟨⟨_, rfl⟩, .inr ⟨_, by rw [HPx.out]; exact List.prefix_refl _, hJx3⟩⟩
    · have hsp := split_hit c _ a r h1 h3
      have hl : a.length + 1 + r.length = u.size := by rw [← size_l, h1]; simp; omega
      have e1 : u.extract 0 a.length = bs a := ba_ext (by rw [extract_list, h1]; simp [bs])
      have e2 : u.extract (a.length + 1) u.size = bs r := ba_ext (by
        rw [extract_list, List.take_of_length_le (by rw [size_l]; omega), h1, show a ++ c :: r = (a ++ [c]) ++ r by simp, show a.length + 1 = (a ++ [c]).length by simp, List.drop_left]; rfl)
      have HPx : Hid (splitC c s.data.toList = (pre ++ [a]) ++ splitC c (bs r).data.toList) := by
        show _ = _
        rw [HP.out, hsp, bs_list]; simp
      have HPm : Hid (pre.map bs ++ [bs a] = (pre ++ [a]).map bs) := by show _ = _; simp
      rw [h2] at cI
      have CI' := Lib.hid cI
      have hpfx : pre.map bs ++ [bs a] <+: (splitC c s.data.toList).map bs := ⟨(splitC c (bs r).data.toList).map bs, by rw [HPx.out]; simp⟩
      have HSP := Lib.hid hpfx
      clear cI h1 h2 h3 hsp hpfx
      obtain ⟨fn, tmps, assign, body, hy, hR⟩ := HY.out (pre.map bs) (bs a) wr hj HSP.out
      have HR := Lib.hid hR
      clear hR
      have hrs : (bs r).size = r.length := bs_size r
      have HRS := Lib.hid hrs
      clear hrs
      gi_wp2_with (refine ⟨trivial, ?_⟩; gi_at_call 117; refine (callsIn_wide.2 (CI'.out _)).mono ?_; rintro e w' ⟨rfl, rfl⟩)
      refine (HR.out).mono ?_
      rintro e W3 (⟨rfl, hJ3, hk3⟩ | ⟨rfl, hJx3⟩)
      · have b0' : Boxed W3 Bs 9 (.string u) := hk3 Bs (by omega) (by omega) _ b0
        have b1' : Boxed W3 (Bs + 1) 9 (.string ⟨#[c]⟩) := hk3 (Bs + 1) (by omega) (by omega) _ b1
        have b2' : Boxed W3 (Bs + 2) 3 (.int .i64 0) := hk3 (Bs + 2) (by omega) (by omega) _ b2
        have k0 := b0'.cell
        have k1 := b1'.cell
        have k2 := b2'.cell
        have kf := b0'.frozen
        gi_wp2
        go_roundw
        case rel =>
          refine ⟨pre ++ [a], bs r, HPx, by rw [HRS.out]; omega, b0'.set _, b1'.kept (grownBy_setCell' _ _ _) (by simp), b2'.kept (grownBy_setCell' _ _ _) (by simp), ?_⟩
          rw [← HPm.out]
          exact HJ.out _ _ _ hJ3 ⟨grownBy_setCell' _ _ _, KeepsOthers.setCell _ _ _⟩
        case measure =>
          rw [boxLen_eq (b0'.set _), boxLen_eq b0, HRS.out]; omega
      · gi_wp2
        refine bodyPost_ret (results_none rfl _ _ _) rfl ?_
        exact ⟨⟨_, rfl⟩, .inr ⟨_, HSP.out, hJx3⟩⟩
end Go.Proofs.YtpdohlnobbimaaaDoor
