/-
  wire: the parser tells an event.
-/
import Derived.Test.YtencphfhpnljlaaGreatDoorWp2
import Derived.Deep.RegionLaw
namespace Go.Proofs.YtencphfhpnljlaaGreatDoor
open Go.RowKit

theorem step_append_run {P : Program} {w w' : World} {ops : Array Oper} {o : Oper} {a : Act} {K : Act → World → Prop} {Q : Exit → Act → World → Prop} {E : Prop} {t : TypeId} {v y v' : Value}
    (hrun : (Builtin.append_ #[t, t] t #[v, y]).run P w = .ok v' w') (hgd : o.guard = none) (s x : Operand)
    (ho : o.op = .call { callee := .builtin .append, args := #[s, x], argTypes := #[t, t] }) (hty : o.type = t) (hs : a.eval s = v) (hx : a.eval x = y)
    (h : K (a.put o.dst v') w') : if Region.wanted o (yielded ops a.tmps) = true then Oper.wp P o a w K Q else E := by
  have hw : Region.wanted o (yielded ops a.tmps) = true := by simp [Region.wanted, hgd]
  rw [if_pos hw]
  unfold Oper.wp
  simp only [execOp, ho, resolve, invoke, builtin, Sem.run_bind, Sem.run_pure, Result.andThen_ok, List.map_toArray, List.map_cons, List.map_nil, hs, hx, hty, hrun]
  exact h
theorem wp_out (p : WireP) (f o' o : Value) : (wpV p f o).setIfInBounds 16 o' = wpV p f o' := by simp [wpV, wpA]
/-- an event that is told lies behind the others -/
theorem tell_app {w0 W va : World} {g : Nat} {p : WireP} {evs : List EvP} {A O : Option Addr} {c oc : Nat} {X : List EvM} (h : ParW w0 W g p evs A c O oc X) (hb : Below W.heap.size W va) (hl : X.length ≤ 1000000) (y : EvP) (B : Option Addr) (d : Nat)
    (hy : va.ownsRow W.heap.size 49 2 (.slice B y.flds.length d) y.flds.length (fldsC y.flds)) :
    ∃ O5 oc5 w5, (Builtin.append_ #[35, 35] 35 #[.slice O X.length oc, .slice (some ⟨va.heap.size, 0, none⟩) 1 1]).run Tryz.prog (va.alloc (.cells #[.int .i64 (y.kind : Nat), .string (bs y.meth), .string (bs y.tgt), .slice B y.flds.length d, .string (bs y.body), .int .i64 (y.status : Nat)] 41)) = .ok (.slice O5 (X.length + 1) oc5) w5 ∧
      va.cell? ⟨g, 16, none⟩ = some (.slice O X.length oc) ∧ (va.alloc (.cells #[.int .i64 (y.kind : Nat), .string (bs y.meth), .string (bs y.tgt), .slice B y.flds.length d, .string (bs y.body), .int .i64 (y.status : Nat)] 41)).cell? ⟨g, 16, none⟩ = some (.slice O X.length oc) ∧ w5.cell? ⟨g, 16, none⟩ = some (.slice O X.length oc) ∧ w5.frozen? ⟨g, 16, none⟩ = false ∧ ParW w0 (w5.setCell ⟨g, 16, none⟩ (.slice O5 (X.length + 1) oc5)) g p (evs ++ [y]) A c O5 oc5 (X ++ [(y, B, d)]) := by
  have hv := h.later hb
  have hB0 : w0.heap.size ≤ va.heap.size := Nat.le_trans h.only.size hb.size
  obtain ⟨O5, oc5, w5, hrun, ho5, hb5, hg5⟩ := app_ev hv.out hB0 hl (y, B, d)
  have k5 := hv.blk.grown hg5 (own_blk_ne (e := 41) hv.out hv.blk (by decide)).symm
  have f5 := hv.flds.kept hg5 (own_own_ne hv.flds hv.out (by decide))
  have hy0 := own_leW hy (Nat.zero_le _)
  have e5 := (hv.held.app (y, B, d) hy0).grown hv.out (by decide) hg5
  have kk := k5.set_ 16 (.slice O5 (X.length + 1) oc5)
  rw [wp_out] at kk
  have hs5 := Lib.grownBy_setB (World.grownBy.refl w5 (some g)) 16 (.slice O5 (X.length + 1) oc5)
  refine ⟨O5, oc5, w5, hrun, hv.blk.cell 16, (hv.blk.alloc _).cell 16, k5.cell 16, k5.frozen 16, ⟨?_, own_only f5 k5 (by decide) hs5, ?_, e5.only k5 (by decide) hs5, ?_, Lib.grownBy_trans (only_past hv.only hb5) hs5⟩⟩
  · rw [show (X ++ [(y, B, d)]).length = X.length + 1 by simp]; exact kk
  · rw [show (X ++ [(y, B, d)]).length = X.length + 1 by simp]; exact own_only ho5 k5 (by decide) hs5
  · rw [List.map_append, h.evs]; rfl
def TellPost (w0 : World) (g : Nat) (p : WireP) (evs : List EvP) (A : Option Addr) (c n : Nat) (e : Ending) (w' : World) : Prop :=
  e = .returned (.tuple #[]) ∧ ∃ O oc X, X.length = n + 1 ∧ ParW w0 w' g p evs A c O oc X

set_option maxRecDepth 100000 in
set_option maxHeartbeats 8000000 in
theorem tellLine {w0 W : World} {g : Nat} {p : WireP} {evs : List EvP} {A O : Option Addr} {c oc : Nat} {X : List EvM} (h : ParW w0 W g p evs A c O oc X) (L : Nat) (hL : W.cell? ⟨L, 0, none⟩ = some (.iface 141 (.agg #[]))) (hl : X.length ≤ 1000000) (_hn : p.flds.length ≤ 1000000) :
    Calls Tryz.prog 78 #[.pointer (some ⟨g, 0, none⟩), .slice (some ⟨L, 0, none⟩) 1 1] W (TellPost w0 g p (evs ++ [⟨1, p.meth, p.tgt, [], [], 0⟩]) A c X.length) := by
  have c16 : W.cell? ⟨g, 16, none⟩ = some (.slice O X.length oc) := h.blk.cell 16
  have cT : ∀ V, Below W.heap.size W V → Calls Tryz.prog 220 #[.agg #[], .pointer (some ⟨g, 0, none⟩)] V (fun e w' => ∃ B d, e = .returned (.agg #[.int .i64 ((⟨1, p.meth, p.tgt, [], [], 0⟩ : EvP).kind : Nat), .string (bs (⟨1, p.meth, p.tgt, [], [], 0⟩ : EvP).meth), .string (bs (⟨1, p.meth, p.tgt, [], [], 0⟩ : EvP).tgt), .slice B (⟨1, p.meth, p.tgt, [], [], 0⟩ : EvP).flds.length d, .string (bs (⟨1, p.meth, p.tgt, [], [], 0⟩ : EvP).body), .int .i64 ((⟨1, p.meth, p.tgt, [], [], 0⟩ : EvP).status : Nat)]) ∧ w'.ownsRow W.heap.size 49 2 (.slice B (⟨1, p.meth, p.tgt, [], [], 0⟩ : EvP).flds.length d) (⟨1, p.meth, p.tgt, [], [], 0⟩ : EvP).flds.length (fldsC (⟨1, p.meth, p.tgt, [], [], 0⟩ : EvP).flds) ∧ Below W.heap.size W w') := fun V hV => by
    have hv := h.later hV
    have kv := hv.blk
    refine (toldLine g (bs p.meth) (bs p.tgt) V (kv.cell 2) (kv.cell 3) kv.lt).mono ?_
    rintro e w' ⟨B, d, he, ho, hb⟩
    exact ⟨B, d, he, own_leW ho hV.size, hV.trans (hb.mono hV.size)⟩
  obtain ⟨y, hy⟩ : ∃ y : EvP, ⟨1, p.meth, p.tgt, [], [], 0⟩ = y := ⟨_, rfl⟩
  rw [hy] at cT ⊢
  have hm : ∀ w : World, (method 364 141 (.agg #[]) "waypost/wire.told").run Tryz.prog w = .ok (220, .agg #[]) w := fun _ => by kernel_rfl
  have AP := Lib.hid (fun V (hV : Below W.heap.size W V) B d ho => tell_app (va := V) h hV hl y B d ho)
  have CT := Lib.hid cT
  have BD := Lib.hid ((Below.refl W.heap.size W).drew)
  have hXn : ∀ B d, (X ++ [(y, B, d)]).length = X.length + 1 := fun B d => by simp
  have HXN := Lib.hid hXn
  clear hXn
  generalize X.length = n at *
  clear cT hy h hl
  go_enter Tryz.func78, Tryz.ntmps78
  go_wp2_with fail
  go_loopw [8] (fun i wr => (i = .int .i64 0 ∧ wr = W) ∨ (i = .int .i64 1 ∧ Hid (∃ O oc X, X.length = n + 1 ∧ ParW w0 wr g p (evs ++ [y]) A c O oc X))) (fun i _ => 1 - (intOf i).toNat)
  case atStart => exact .inl ⟨rfl, rfl⟩
  case round =>
    rcases hrel with ⟨rfl, rfl⟩ | ⟨rfl, hP⟩
    · rename World => W
      go_upto_region 3 with (fail)
      go_region_law (first
        | (refine step_append_run hrun (by rfl) _ _ (by rfl) (by rfl) (by rfl) (by rfl) ?_)
        | (go_simp; go_at_call 220; (with_reducible refine (CT.out _ BD.out).mono ?_); rintro e va ⟨B, d, rfl, ho, ga⟩
           obtain ⟨O5, oc5, w5, hrun, x16, y16, z16, f16, hfin⟩ := AP.out va ga B d ho
           have HFIN := Lib.hid hfin
           clear hfin ho ga))
      all_goals (
        go_wp2_with fail
        go_roundw
        case rel => exact .inr ⟨rfl, hide ⟨_, _, _, HXN.out B d, HFIN.out⟩⟩
        case measure => simp [intOf])
    · have HP := Lib.hid hP.out
      clear hP
      go_wp2_with fail
      go_end0
      exact ⟨rfl, HP.out⟩

set_option maxRecDepth 100000 in
set_option maxHeartbeats 8000000 in
theorem tellHead {w0 W : World} {g : Nat} {p : WireP} {evs : List EvP} {A O : Option Addr} {c oc : Nat} {X : List EvM} (h : ParW w0 W g p evs A c O oc X) (L : Nat) (hL : W.cell? ⟨L, 0, none⟩ = some (.iface 177 (.agg #[]))) (hl : X.length ≤ 1000000) (hn : p.flds.length ≤ 1000000) :
    Calls Tryz.prog 78 #[.pointer (some ⟨g, 0, none⟩), .slice (some ⟨L, 0, none⟩) 1 1] W (TellPost w0 g p (evs ++ [⟨2, p.meth, p.tgt, p.flds, [], 0⟩]) A c X.length) := by
  have c16 : W.cell? ⟨g, 16, none⟩ = some (.slice O X.length oc) := h.blk.cell 16
  have cT : ∀ V, Below W.heap.size W V → Calls Tryz.prog 222 #[.agg #[], .pointer (some ⟨g, 0, none⟩)] V (fun e w' => ∃ B d, e = .returned (.agg #[.int .i64 ((⟨2, p.meth, p.tgt, p.flds, [], 0⟩ : EvP).kind : Nat), .string (bs (⟨2, p.meth, p.tgt, p.flds, [], 0⟩ : EvP).meth), .string (bs (⟨2, p.meth, p.tgt, p.flds, [], 0⟩ : EvP).tgt), .slice B (⟨2, p.meth, p.tgt, p.flds, [], 0⟩ : EvP).flds.length d, .string (bs (⟨2, p.meth, p.tgt, p.flds, [], 0⟩ : EvP).body), .int .i64 ((⟨2, p.meth, p.tgt, p.flds, [], 0⟩ : EvP).status : Nat)]) ∧ w'.ownsRow W.heap.size 49 2 (.slice B (⟨2, p.meth, p.tgt, p.flds, [], 0⟩ : EvP).flds.length d) (⟨2, p.meth, p.tgt, p.flds, [], 0⟩ : EvP).flds.length (fldsC (⟨2, p.meth, p.tgt, p.flds, [], 0⟩ : EvP).flds) ∧ Below W.heap.size W w') := fun V hV => by
    have hv := h.later hV
    have kv := hv.blk
    refine (toldHead g (bs p.meth) (bs p.tgt) A c p.flds V (kv.cell 2) (kv.cell 3) (kv.cell 4) kv.lt (Reads.of_own hv.flds) hn).mono ?_
    rintro e w' ⟨B, d, he, ho, hb⟩
    exact ⟨B, d, he, own_leW ho hV.size, hV.trans (hb.mono hV.size)⟩
  obtain ⟨y, hy⟩ : ∃ y : EvP, ⟨2, p.meth, p.tgt, p.flds, [], 0⟩ = y := ⟨_, rfl⟩
  rw [hy] at cT ⊢
  have hm : ∀ w : World, (method 364 177 (.agg #[]) "waypost/wire.told").run Tryz.prog w = .ok (222, .agg #[]) w := fun _ => by kernel_rfl
  have AP := Lib.hid (fun V (hV : Below W.heap.size W V) B d ho => tell_app (va := V) h hV hl y B d ho)
  have CT := Lib.hid cT
  have BD := Lib.hid ((Below.refl W.heap.size W).drew)
  have hXn : ∀ B d, (X ++ [(y, B, d)]).length = X.length + 1 := fun B d => by simp
  have HXN := Lib.hid hXn
  clear hXn
  generalize X.length = n at *
  clear cT hy h hl hn
  go_enter Tryz.func78, Tryz.ntmps78
  go_wp2_with fail
  go_loopw [8] (fun i wr => (i = .int .i64 0 ∧ wr = W) ∨ (i = .int .i64 1 ∧ Hid (∃ O oc X, X.length = n + 1 ∧ ParW w0 wr g p (evs ++ [y]) A c O oc X))) (fun i _ => 1 - (intOf i).toNat)
  case atStart => exact .inl ⟨rfl, rfl⟩
  case round =>
    rcases hrel with ⟨rfl, rfl⟩ | ⟨rfl, hP⟩
    · rename World => W
      go_upto_region 3 with (fail)
      go_region_law (first
        | (refine step_append_run hrun (by rfl) _ _ (by rfl) (by rfl) (by rfl) (by rfl) ?_)
        | (go_simp; go_at_call 222; (with_reducible refine (CT.out _ BD.out).mono ?_); rintro e va ⟨B, d, rfl, ho, ga⟩
           obtain ⟨O5, oc5, w5, hrun, x16, y16, z16, f16, hfin⟩ := AP.out va ga B d ho
           have HFIN := Lib.hid hfin
           clear hfin ho ga))
      all_goals (
        go_wp2_with fail
        go_roundw
        case rel => exact .inr ⟨rfl, hide ⟨_, _, _, HXN.out B d, HFIN.out⟩⟩
        case measure => simp [intOf])
    · have HP := Lib.hid hP.out
      clear hP
      go_wp2_with fail
      go_end0
      exact ⟨rfl, HP.out⟩

set_option maxRecDepth 100000 in
set_option maxHeartbeats 8000000 in
theorem tellReq {w0 W : World} {g : Nat} {p : WireP} {evs : List EvP} {A O : Option Addr} {c oc : Nat} {X : List EvM} (h : ParW w0 W g p evs A c O oc X) (b : List UInt8) (L : Nat) (hL : W.cell? ⟨L, 0, none⟩ = some (.iface 182 (.agg #[.string (bs b)]))) (hl : X.length ≤ 1000000) (hn : p.flds.length ≤ 1000000) :
    Calls Tryz.prog 78 #[.pointer (some ⟨g, 0, none⟩), .slice (some ⟨L, 0, none⟩) 1 1] W (TellPost w0 g p (evs ++ [⟨3, p.meth, p.tgt, p.flds, b, 0⟩]) A c X.length) := by
  have c16 : W.cell? ⟨g, 16, none⟩ = some (.slice O X.length oc) := h.blk.cell 16
  have cT : ∀ V, Below W.heap.size W V → Calls Tryz.prog 223 #[.agg #[.string (bs b)], .pointer (some ⟨g, 0, none⟩)] V (fun e w' => ∃ B d, e = .returned (.agg #[.int .i64 ((⟨3, p.meth, p.tgt, p.flds, b, 0⟩ : EvP).kind : Nat), .string (bs (⟨3, p.meth, p.tgt, p.flds, b, 0⟩ : EvP).meth), .string (bs (⟨3, p.meth, p.tgt, p.flds, b, 0⟩ : EvP).tgt), .slice B (⟨3, p.meth, p.tgt, p.flds, b, 0⟩ : EvP).flds.length d, .string (bs (⟨3, p.meth, p.tgt, p.flds, b, 0⟩ : EvP).body), .int .i64 ((⟨3, p.meth, p.tgt, p.flds, b, 0⟩ : EvP).status : Nat)]) ∧ w'.ownsRow W.heap.size 49 2 (.slice B (⟨3, p.meth, p.tgt, p.flds, b, 0⟩ : EvP).flds.length d) (⟨3, p.meth, p.tgt, p.flds, b, 0⟩ : EvP).flds.length (fldsC (⟨3, p.meth, p.tgt, p.flds, b, 0⟩ : EvP).flds) ∧ Below W.heap.size W w') := fun V hV => by
    have hv := h.later hV
    have kv := hv.blk
    refine (toldReq g (bs p.meth) (bs p.tgt) A c p.flds (bs b) V (kv.cell 2) (kv.cell 3) (kv.cell 4) kv.lt (Reads.of_own hv.flds) hn).mono ?_
    rintro e w' ⟨B, d, he, ho, hb⟩
    exact ⟨B, d, he, own_leW ho hV.size, hV.trans (hb.mono hV.size)⟩
  obtain ⟨y, hy⟩ : ∃ y : EvP, ⟨3, p.meth, p.tgt, p.flds, b, 0⟩ = y := ⟨_, rfl⟩
  rw [hy] at cT ⊢
  have hm : ∀ w : World, (method 364 182 (.agg #[.string (bs b)]) "waypost/wire.told").run Tryz.prog w = .ok (223, .agg #[.string (bs b)]) w := fun _ => by kernel_rfl
  have AP := Lib.hid (fun V (hV : Below W.heap.size W V) B d ho => tell_app (va := V) h hV hl y B d ho)
  have CT := Lib.hid cT
  have BD := Lib.hid ((Below.refl W.heap.size W).drew)
  have hXn : ∀ B d, (X ++ [(y, B, d)]).length = X.length + 1 := fun B d => by simp
  have HXN := Lib.hid hXn
  clear hXn
  generalize X.length = n at *
  clear cT hy h hl hn
  go_enter Tryz.func78, Tryz.ntmps78
  go_wp2_with fail
  go_loopw [8] (fun i wr => (i = .int .i64 0 ∧ wr = W) ∨ (i = .int .i64 1 ∧ Hid (∃ O oc X, X.length = n + 1 ∧ ParW w0 wr g p (evs ++ [y]) A c O oc X))) (fun i _ => 1 - (intOf i).toNat)
  case atStart => exact .inl ⟨rfl, rfl⟩
  case round =>
    rcases hrel with ⟨rfl, rfl⟩ | ⟨rfl, hP⟩
    · rename World => W
      go_upto_region 3 with (fail)
      go_region_law (first
        | (refine step_append_run hrun (by rfl) _ _ (by rfl) (by rfl) (by rfl) (by rfl) ?_)
        | (go_simp; go_at_call 223; (with_reducible refine (CT.out _ BD.out).mono ?_); rintro e va ⟨B, d, rfl, ho, ga⟩
           obtain ⟨O5, oc5, w5, hrun, x16, y16, z16, f16, hfin⟩ := AP.out va ga B d ho
           have HFIN := Lib.hid hfin
           clear hfin ho ga))
      all_goals (
        go_wp2_with fail
        go_roundw
        case rel => exact .inr ⟨rfl, hide ⟨_, _, _, HXN.out B d, HFIN.out⟩⟩
        case measure => simp [intOf])
    · have HP := Lib.hid hP.out
      clear hP
      go_wp2_with fail
      go_end0
      exact ⟨rfl, HP.out⟩

set_option maxRecDepth 100000 in
set_option maxHeartbeats 8000000 in
theorem tellWrong {w0 W : World} {g : Nat} {p : WireP} {evs : List EvP} {A O : Option Addr} {c oc : Nat} {X : List EvM} (h : ParW w0 W g p evs A c O oc X) (s : Nat) (L : Nat) (hL : W.cell? ⟨L, 0, none⟩ = some (.iface 172 (.agg #[.int .i64 (s : Nat)]))) (hl : X.length ≤ 1000000) (hn : p.flds.length ≤ 1000000) :
    Calls Tryz.prog 78 #[.pointer (some ⟨g, 0, none⟩), .slice (some ⟨L, 0, none⟩) 1 1] W (TellPost w0 g p (evs ++ [⟨4, p.meth, p.tgt, if p.over then p.flds else [], [], s⟩]) A c X.length) := by
  have c16 : W.cell? ⟨g, 16, none⟩ = some (.slice O X.length oc) := h.blk.cell 16
  have cT : ∀ V, Below W.heap.size W V → Calls Tryz.prog 221 #[.agg #[.int .i64 (s : Nat)], .pointer (some ⟨g, 0, none⟩)] V (fun e w' => ∃ B d, e = .returned (.agg #[.int .i64 ((⟨4, p.meth, p.tgt, if p.over then p.flds else [], [], s⟩ : EvP).kind : Nat), .string (bs (⟨4, p.meth, p.tgt, if p.over then p.flds else [], [], s⟩ : EvP).meth), .string (bs (⟨4, p.meth, p.tgt, if p.over then p.flds else [], [], s⟩ : EvP).tgt), .slice B (⟨4, p.meth, p.tgt, if p.over then p.flds else [], [], s⟩ : EvP).flds.length d, .string (bs (⟨4, p.meth, p.tgt, if p.over then p.flds else [], [], s⟩ : EvP).body), .int .i64 ((⟨4, p.meth, p.tgt, if p.over then p.flds else [], [], s⟩ : EvP).status : Nat)]) ∧ w'.ownsRow W.heap.size 49 2 (.slice B (⟨4, p.meth, p.tgt, if p.over then p.flds else [], [], s⟩ : EvP).flds.length d) (⟨4, p.meth, p.tgt, if p.over then p.flds else [], [], s⟩ : EvP).flds.length (fldsC (⟨4, p.meth, p.tgt, if p.over then p.flds else [], [], s⟩ : EvP).flds) ∧ Below W.heap.size W w') := fun V hV => by
    have hv := h.later hV
    have kv := hv.blk
    refine (toldWrong g (bs p.meth) (bs p.tgt) A c p.flds (s : Int) p.over V (kv.cell 2) (kv.cell 3) (kv.cell 4) (kv.cell 15) kv.lt (Reads.of_own hv.flds) hn).mono ?_
    rintro e w' ⟨B, d, he, ho, hb⟩
    exact ⟨B, d, he, own_leW ho hV.size, hV.trans (hb.mono hV.size)⟩
  obtain ⟨y, hy⟩ : ∃ y : EvP, ⟨4, p.meth, p.tgt, if p.over then p.flds else [], [], s⟩ = y := ⟨_, rfl⟩
  rw [hy] at cT ⊢
  have hm : ∀ w : World, (method 364 172 (.agg #[.int .i64 (s : Nat)]) "waypost/wire.told").run Tryz.prog w = .ok (221, .agg #[.int .i64 (s : Nat)]) w := fun _ => by kernel_rfl
  have AP := Lib.hid (fun V (hV : Below W.heap.size W V) B d ho => tell_app (va := V) h hV hl y B d ho)
  have CT := Lib.hid cT
  have BD := Lib.hid ((Below.refl W.heap.size W).drew)
  have hXn : ∀ B d, (X ++ [(y, B, d)]).length = X.length + 1 := fun B d => by simp
  have HXN := Lib.hid hXn
  clear hXn
  generalize X.length = n at *
  clear cT hy h hl hn
  go_enter Tryz.func78, Tryz.ntmps78
  go_wp2_with fail
  go_loopw [8] (fun i wr => (i = .int .i64 0 ∧ wr = W) ∨ (i = .int .i64 1 ∧ Hid (∃ O oc X, X.length = n + 1 ∧ ParW w0 wr g p (evs ++ [y]) A c O oc X))) (fun i _ => 1 - (intOf i).toNat)
  case atStart => exact .inl ⟨rfl, rfl⟩
  case round =>
    rcases hrel with ⟨rfl, rfl⟩ | ⟨rfl, hP⟩
    · rename World => W
      go_upto_region 3 with (fail)
      go_region_law (first
        | (refine step_append_run hrun (by rfl) _ _ (by rfl) (by rfl) (by rfl) (by rfl) ?_)
        | (go_simp; go_at_call 221; (with_reducible refine (CT.out _ BD.out).mono ?_); rintro e va ⟨B, d, rfl, ho, ga⟩
           obtain ⟨O5, oc5, w5, hrun, x16, y16, z16, f16, hfin⟩ := AP.out va ga B d ho
           have HFIN := Lib.hid hfin
           clear hfin ho ga))
      all_goals (
        go_wp2_with fail
        go_roundw
        case rel => exact .inr ⟨rfl, hide ⟨_, _, _, HXN.out B d, HFIN.out⟩⟩
        case measure => simp [intOf])
    · have HP := Lib.hid hP.out
      clear hP
      go_wp2_with fail
      go_end0
      exact ⟨rfl, HP.out⟩

end Go.Proofs.YtencphfhpnljlaaGreatDoor
