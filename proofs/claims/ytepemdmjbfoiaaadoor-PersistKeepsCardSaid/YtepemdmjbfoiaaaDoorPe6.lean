/-
  Tests on connections and events, New; Closes of both sides.
-/
import Derived.Test.YtepemdmjbfoiaaaDoorPe5
import Derived.Test.YtepemdmjbfoiaaaDoorFd3
import Derived.Test.YtepemdmjbfoiaaaDoorTr7
import Derived.Test.YtepemdmjbfoiaaaDoorBq
import Derived.Shelf.Bodies
namespace Go.Proofs.YtepemdmjbfoiaaaDoor
open Go.RowKit

theorem eqLk (a0 : Int) (a1 : Bool) (a2 a3 : Int) (b0 : Int) (b1 : Bool) (b2 b3 : Int) (w : World) : (binOp .eql 76 (.agg #[.int .i64 a0, .bool a1, .int .i64 a2, .int .i64 a3]) (.agg #[.int .i64 b0, .bool b1, .int .i64 b2, .int .i64 b3])).run Tryd.prog w = .ok (.bool (a0 == b0 && a1 == b1 && a2 == b2 && a3 == b3)) w := by
  have u3 := Tryd.underlying3
  have a3' := Tryd.isAgg3
  have z3 := Tryd.sizeOf3
  have u4 := Tryd.underlying4
  have a4' := Tryd.isAgg4
  have z4 := Tryd.sizeOf4
  rw [run_eql_struct, show (10000 : Nat) = 9999 + 1 from rfl, Op.equalIn]
  simp only [Sem.run_bind, run_underlying Tryd.underlying76, Result.andThen_ok]
  go_simp
  by_cases h0 : a0 = b0 <;> by_cases h1 : a1 = b1 <;> by_cases h2 : a2 = b2 <;> by_cases h3 : a3 = b3 <;> simp [h0, h1, h2, h3]

set_option maxRecDepth 100000 in
theorem pNew (w : World) : Calls Tryd.prog 77 #[] w fun e w' => e = .returned (.agg #[.int .i64 1, .bool false, .int .i64 0, .int .i64 0]) ∧ Below w.heap.size w w' := by
  go_enter Tryd.func77, Tryd.ntmps77
  go_wp2_with fail
  refine bodyPost_ret (results_cell_row (p := 0) (ty := 76) (by kernel_rfl) _ _ w.heap.size 76 #[.int .i64 1, .bool false, .int .i64 0, .int .i64 0] (0, 0) _ rfl (Blk.new w _ _) Tryd.underlying76 rfl (by kernel_rfl)) rfl ?_
  exact ⟨rfl, (Below.refl _ _).alloc (Nat.le_refl _) _⟩
set_option maxRecDepth 100000 in
theorem rNew (w : World) : Calls Tryd.prog 94 #[] w fun e w' => e = .returned (.agg #[.int .i64 1, .bool false, .int .i64 0, .int .i64 0]) ∧ Below w.heap.size w w' := by
  go_enter Tryd.func94, Tryd.ntmps94
  go_wp2_with fail
  refine bodyPost_ret (results_cell_row (p := 0) (ty := 76) (by kernel_rfl) _ _ w.heap.size 76 #[.int .i64 1, .bool false, .int .i64 0, .int .i64 0] (0, 0) _ rfl (Blk.new w _ _) Tryd.underlying76 rfl (by kernel_rfl)) rfl ?_
  exact ⟨rfl, (Below.refl _ _).alloc (Nat.le_refl _) _⟩
set_option maxRecDepth 100000 in
theorem event_any (k c : Int) (b : Bool) (w : World) : Calls Tryd.prog 80 #[.int .i64 k, .int .i64 c, .bool b] w fun e w' => e = .returned (.agg #[.int .i64 k, .int .i64 c, .bool b]) ∧ Below w.heap.size w w' := by
  go_enter Tryd.func80, Tryd.ntmps80
  go_wp2_with fail
  refine bodyPost_ret (results_cell_row (p := 6) (ty := 81) (by kernel_rfl) _ _ w.heap.size 81 #[.int .i64 k, .int .i64 c, .bool b] (0, 0) _ rfl (Blk.new w _ _) Tryd.underlying81 rfl (by kernel_rfl)) rfl ?_
  exact ⟨rfl, (Below.refl _ _).alloc (Nat.le_refl _) _⟩

def conn : ByteArray := ⟨#[67, 111, 110, 110, 101, 99, 116, 105, 111, 110]⟩
def clos : ByteArray := ⟨#[99, 108, 111, 115, 101]⟩
theorem cast_bne (E : Nat) : ((E : Int) != 0) = (E != 0) := by
  cases E with
  | zero => rfl
  | succ k => rw [bneT (by omega)]; rfl
/-- whether a field wants to close -/
def closeF (f : Fld) : Bool := lowL f.1 == lowL conn.data.toList && ((holdsT f.2 clos.data.toList).1 || (holdsT f.2 clos.data.toList).2 != 0)

set_option maxRecDepth 100000 in
set_option maxHeartbeats 4000000 in
theorem closes1 (f : Fld) (w : World) (h1 : f.1.length ≤ 100000) (h2 : f.2.length ≤ 100000) :
    Calls Tryd.prog 129 #[.agg #[.string (bs f.1), .string (bs f.2)]] w fun e w' => e = .returned (.bool (closeF f)) ∧ Below w.heap.size w w' := by
  have cS := fun w => TSame_any (bs f.1) conn w (by rw [bs_size]; omega) (by decide)
  have cH := fun w => THolds_any (bs f.2) clos w (by rw [bs_size]; omega) (by decide)
  rw [bs_list] at cS cH
  obtain ⟨S, hS⟩ : ∃ S, (lowL f.1 == lowL conn.data.toList) = S := ⟨_, rfl⟩
  obtain ⟨⟨T, E⟩, hT⟩ : ∃ y, holdsT f.2 clos.data.toList = y := ⟨_, rfl⟩
  obtain ⟨X, hX⟩ : ∃ X, closeF f = X := ⟨_, rfl⟩
  rw [hX]
  unfold closeF at hX
  rw [hS] at cS hX
  rw [hT] at cH hX
  unfold conn at cS
  unfold clos at cH
  have CS := Lib.hid cS
  have CH := Lib.hid cH
  have hB1 := Blk.new w 52 #[.string (bs f.1), .string (bs f.2)]
  have hb1 : Below w.heap.size w (w.alloc (.cells #[.string (bs f.1), .string (bs f.2)] 52)) := (Below.refl _ _).alloc (Nat.le_refl _) _
  have HB := Lib.hid (And.intro hB1 hb1)
  clear cS cH hS hT hB1 hb1
  cases S with
  | false =>
    have hX : X = false := by rw [← hX]; rfl
    subst hX
    go_enter Tryd.func129, Tryd.ntmps129
    go_wp2_with fail
    (with_reducible refine (CS.out _).mono ?_); rintro e w2 ⟨rfl, g2⟩
    go_wp2_with fail
    go_ret
    exact ⟨rfl, HB.out.2.trans (g2.mono HB.out.2.size)⟩
  | true =>
    go_enter Tryd.func129, Tryd.ntmps129
    go_wp2_with fail
    (with_reducible refine (CS.out _).mono ?_); rintro e w2 ⟨rfl, g2⟩
    have h2 := HB.out.2.trans (g2.mono HB.out.2.size)
    have HB2 := HB.out.1.below g2 HB.out.1.lt
    have d1 : w2.cell? ⟨w.heap.size, 1, none⟩ = some (.string (bs f.2)) := HB2.cell 1
    clear HB2 g2
    go_wp2_with fail
    (with_reducible refine (CH.out _).mono ?_); rintro e w3 ⟨rfl, g3⟩
    have h3 := h2.trans (g3.mono h2.size)
    clear g3 d1
    go_wp2_with fail
    all_goals (
      go_ret
      refine ⟨?_, h3⟩
      rw [← hX]
      simp_all [cast_bne])

set_option maxRecDepth 100000 in
set_option maxHeartbeats 4000000 in
theorem index1 (A : Option Addr) (n c : Nat) (l : List Fld) (w : World) (hr : Reads w w.heap.size 2 A n (fldsC l)) (hn : n ≤ 1000000) (hl : fldsOk l) :
    Calls Tryd.prog 152 #[.slice A n c, .func (.func 129) #[] #[]] w fun e w' => (∃ v : Int, e = .returned (.int .i64 v) ∧ decide (v ≥ 0) = l.any closeF) ∧ Below w.heap.size w w' := by
  obtain rfl := hr.flen
  have HR := Lib.hid hr
  have HL := Lib.hid hl
  have CC := Lib.hid closes1
  clear hr hl
  go_enter Tryd.func152, Tryd.ntmps152
  go_wp2_with fail
  go_loopw [8] (fun i wr => ∃ k : Nat, i = .int .i64 k ∧ k ≤ l.length ∧ Hid ((l.take k).any closeF = false) ∧ Below w.heap.size w wr) (fun i _ => l.length - (intOf i).toNat)
  case atStart => exact ⟨0, rfl, by omega, hide (by simp), Below.refl _ _⟩
  case round =>
    obtain ⟨k, rfl, hk, HT, hb⟩ := hrel
    rename World => W0
    by_cases hlt : k < l.length
    · obtain ⟨b, o, rfl, hbl, q0, q1⟩ := HR.out.fld k hlt
      have c0 := (hb.cell (p := ⟨b, o + k * 2, none⟩) hbl).trans q0
      have c1 := (hb.cell (p := ⟨b, o + k * 2 + 1, none⟩) hbl).trans q1
      obtain ⟨f, hf⟩ : ∃ f, l[k] = f := ⟨_, rfl⟩
      have hok := HL.out l[k] (List.getElem_mem hlt)
      rw [hf] at c0 c1 hok
      have cO := fun w => closes1 f w hok.1 hok.2
      obtain ⟨E, hE⟩ : ∃ E, closeF f = E := ⟨_, rfl⟩
      rw [hE] at cO
      have CO := Lib.hid cO
      have HF := Lib.hid (And.intro hf hE)
      clear q0 q1 cO hf hE hok
      go_wp2_with fail
      (with_reducible refine (CO.out _).mono ?_); rintro e w1 ⟨rfl, hb1⟩
      have hbX := hb.trans (hb1.mono hb.size)
      clear hb1
      cases E with
      | false =>
        have HT' : Hid ((l.take (k + 1)).any closeF = false) := by
          refine hide ?_
          rw [List.take_succ_eq_append_getElem hlt, List.any_append, HT.out, HF.out.1]
          simp [HF.out.2]
        go_wp2_with fail
        go_roundw
        case rel => exact ⟨k + 1, by go_num, by omega, HT', hbX⟩
        case measure => simp [intOf]; omega
      | true =>
        have hX : l.any closeF = true := by
          rw [List.any_eq_true]
          exact ⟨l[k], List.getElem_mem hlt, by rw [HF.out.1]; exact HF.out.2⟩
        go_wp2_with fail
        go_ret
        refine ⟨⟨_, rfl, ?_⟩, hbX⟩
        rw [hX]
        simp
    · have hkl : k = l.length := by omega
      subst hkl
      have hd2 : decide ((l.length : Int) < (l.length : Int)) = false := by simp
      have hX : l.any closeF = false := by have := HT.out; rwa [List.take_length] at this
      go_wp2_with fail
      go_ret
      refine ⟨⟨_, rfl, ?_⟩, hb⟩
      rw [hX]
      rfl

set_option maxRecDepth 100000 in
theorem contains1 (A : Option Addr) (n c : Nat) (l : List Fld) (w : World) (hr : Reads w w.heap.size 2 A n (fldsC l)) (hn : n ≤ 1000000) (hl : fldsOk l) :
    Calls Tryd.prog 128 #[.slice A n c, .func (.func 129) #[] #[]] w fun e w' => e = .returned (.bool (l.any closeF)) ∧ Below w.heap.size w w' := by
  have CI := Lib.hid (index1 A n c l w hr hn hl)
  clear hr
  go_enter Tryd.func128, Tryd.ntmps128
  go_wp2_with (go_at_call 152; refine (CI.out).mono ?_; rintro e w1 ⟨⟨v, rfl, hv⟩, hb1⟩)
  go_ret
  exact ⟨rfl, hb1⟩
set_option maxRecDepth 100000 in
theorem pCloses (A : Option Addr) (n c : Nat) (l : List Fld) (w : World) (hr : Reads w w.heap.size 2 A n (fldsC l)) (hn : n ≤ 1000000) (hl : fldsOk l) :
    Calls Tryd.prog 90 #[.slice A n c] w fun e w' => e = .returned (.bool (l.any closeF)) ∧ Below w.heap.size w w' := by
  have CI := Lib.hid (contains1 A n c l w hr hn hl)
  clear hr
  go_enter Tryd.func90, Tryd.ntmps90
  go_wp2_with fail
  (with_reducible refine (CI.out).mono ?_); rintro e w1 ⟨rfl, hb1⟩
  go_wp2_with fail
  go_ret
  exact ⟨rfl, hb1⟩

def init : Lk := (1, false, 0, 0)
set_option maxRecDepth 100000 in
set_option maxHeartbeats 4000000 in
theorem runs_hit (want : Lk) (A : Option Addr) (n c : Nat) (es : List Ev) (w : World) (hr : Reads w w.heap.size 3 A n (evsC es)) (hn : n ≤ 1000000) (h : runV init es = (want, es.length, 0)) :
    Calls Tryd.prog 82 #[.agg #[.int .i64 want.1, .bool want.2.1, .int .i64 want.2.2.1, .int .i64 want.2.2.2], .slice A n c] w fun e w' => e = .returned (.bool true) ∧ Below w.heap.size w w' := by
  have hl := hr.elen
  obtain ⟨s, a, m, d⟩ := want
  have cR := fun w hr => pRun init A n c es w hr hn
  rw [h, ← hl] at cR
  unfold lkV linkV init at cR
  have CR := Lib.hid cR
  have CN := Lib.hid pNew
  have hq : ∀ w, (binOp .eql 76 (.agg #[.int .i64 s, .bool a, .int .i64 m, .int .i64 d]) (.agg #[.int .i64 s, .bool a, .int .i64 m, .int .i64 d])).run Tryd.prog w = .ok (.bool true) w := fun w => by rw [eqLk]; simp
  have hB1 := Blk.new w 76 #[.int .i64 s, .bool a, .int .i64 m, .int .i64 d]
  have hb1 : Below w.heap.size w (w.alloc (.cells #[.int .i64 s, .bool a, .int .i64 m, .int .i64 d] 76)) := (Below.refl _ _).alloc (Nat.le_refl _) _
  have HR := Lib.hid hr
  have HB := Lib.hid (And.intro hB1 hb1)
  clear cR hB1 hb1 hr hl h
  go_enter Tryd.func82, Tryd.ntmps82
  go_wp2_with fail
  (with_reducible refine (CN.out _).mono ?_); rintro e w2 ⟨rfl, g2⟩
  have h2 := HB.out.2.trans (g2.mono HB.out.2.size)
  have HB2 := Lib.hid (HB.out.1.below g2 HB.out.1.lt)
  go_wp2_with fail
  (with_reducible refine (CR.out _ ((HR.out.below h2).more h2.size)).mono ?_); rintro e w3 ⟨rfl, g3⟩
  have h3 := h2.trans (g3.mono h2.size)
  have k3 := (HB2.out.below g3 HB2.out.lt).alloc (.cells #[.int .i64 s, .bool a, .int .i64 m, .int .i64 d] 76)
  have d0 : (w3.alloc (.cells #[.int .i64 s, .bool a, .int .i64 m, .int .i64 d] 76)).cell? ⟨w.heap.size, 0, none⟩ = some (.int .i64 s) := k3.cell 0
  have d1 : (w3.alloc (.cells #[.int .i64 s, .bool a, .int .i64 m, .int .i64 d] 76)).cell? ⟨w.heap.size, 1, none⟩ = some (.bool a) := k3.cell 1
  have d2 : (w3.alloc (.cells #[.int .i64 s, .bool a, .int .i64 m, .int .i64 d] 76)).cell? ⟨w.heap.size, 2, none⟩ = some (.int .i64 m) := k3.cell 2
  have d3 : (w3.alloc (.cells #[.int .i64 s, .bool a, .int .i64 m, .int .i64 d] 76)).cell? ⟨w.heap.size, 3, none⟩ = some (.int .i64 d) := k3.cell 3
  have H3 := Lib.hid (h3.alloc h3.size (.cells #[.int .i64 s, .bool a, .int .i64 m, .int .i64 d] 76))
  clear h2 h3 g2 g3 k3
  go_wp2_with fail
  go_ret
  exact ⟨rfl, H3.out⟩
set_option maxRecDepth 100000 in
set_option maxHeartbeats 4000000 in
theorem fails_hit (want : Nat) (A : Option Addr) (n c : Nat) (es : List Ev) (w : World) (hr : Reads w w.heap.size 3 A (n + 1) (evsC es)) (hn : n < 1000000) (h : (runV init es).2 = (n, want)) :
    Calls Tryd.prog 83 #[.int .i64 want, .slice A (n + 1) c] w fun e w' => e = .returned (.bool true) ∧ Below w.heap.size w w' := by
  obtain ⟨V, hV⟩ : ∃ V, runV init es = V := ⟨_, rfl⟩
  have cR := fun w hr => pRun init A (n + 1) c es w hr (by omega)
  rw [hV] at cR h
  obtain ⟨⟨s, a, m, d⟩, p, q⟩ := V
  simp only [Prod.mk.injEq] at h
  obtain ⟨rfl, rfl⟩ := h
  unfold lkV linkV init at cR
  have CR := Lib.hid cR
  have CN := Lib.hid pNew
  have HR := Lib.hid hr
  clear cR hr hV
  go_enter Tryd.func83, Tryd.ntmps83
  go_wp2_with fail
  (with_reducible refine (CN.out _).mono ?_); rintro e w2 ⟨rfl, g2⟩
  go_wp2_with fail
  (with_reducible refine (CR.out _ ((HR.out.below g2).more g2.size)).mono ?_); rintro e w3 ⟨rfl, g3⟩
  have h3 := g2.trans (g3.mono g2.size)
  have H3 := Lib.hid (h3.alloc h3.size (.cells #[.int .i64 s, .bool a, .int .i64 m, .int .i64 d] 76))
  clear h3 g2 g3
  go_wp2_with fail

  go_ret
  exact ⟨rfl, H3.out⟩
end Go.Proofs.YtepemdmjbfoiaaaDoor
