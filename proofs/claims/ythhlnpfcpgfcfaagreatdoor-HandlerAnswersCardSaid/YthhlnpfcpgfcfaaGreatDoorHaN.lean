/-
  Handlers: Code of the program: two maps that are laid and read. Handlers: Code of the program. Handlers: Page and Under of the program. The statements' own words on handlers: found, says, codes, under, awake.
-/
import Derived.Test.YthhlnpfcpgfcfaaGreatDoorHa6
import Derived.Maps.OwnSet
import Derived.Test.YthhlnpfcpgfcfaaGreatDoorHa4
import Derived.Lib.IndexMore
namespace Go.Proofs.YthhlnpfcpgfcfaaGreatDoor

section
open Go.RowKit Go.ChangeMaps Go.MapKept

def entsF : Nat → List (Int × Value) → List MapEntry
  | _, [] => []
  | i, x :: l => ⟨.int .i64 x.1, x.2, i⟩ :: entsF (i + 1) l
def ents (L : List (Int × Value)) : Array MapEntry := (entsF 0 L).toArray
def lookL (k : Int) : List (Int × Value) → Nat → Option (Nat × Value)
  | [], _ => none
  | x :: l, j => if k == x.1 then some (j, x.2) else lookL k l (j + 1)
theorem entsF_app : ∀ (L : List (Int × Value)) (i : Nat) (x : Int × Value), entsF i (L ++ [x]) = entsF i L ++ [⟨.int .i64 x.1, x.2, i + L.length⟩]
  | [], i, x => by simp [entsF]
  | y :: L, i, x => by
    rw [List.cons_append, entsF, entsF_app L (i + 1) x, entsF]
    simp; omega
theorem ents_push (L : List (Int × Value)) (k : Int) (v : Value) : (ents L).push ⟨.int .i64 k, v, L.length⟩ = ents (L ++ [(k, v)]) := by
  unfold ents
  rw [entsF_app]
  simp
theorem find_ents (k : Int) : ∀ (L : List (Int × Value)) (i j : Nat), Instr.findNow (.int .i64) (.int .i64 k) (entsF i L) j = some (lookL k L j)
  | [], i, j => rfl
  | x :: L, i, j => by
    rw [entsF, lookL]
    have ih := find_ents k L (i + 1) (j + 1)
    cases h : k == x.1 with
    | true => simp [Instr.findNow, Instr.sameNow, h]
    | false =>
      simp only [Instr.findNow, Instr.sameNow, if_true, h]
      rw [ih]; rfl
theorem run_keyI (w : World) (n : Nat) (v : Value) (e : Bool) : (Instr.checkKey e (n + 1) 3 v).run Tryz.prog w = .ok () w := by
  unfold Instr.checkKey
  simp [run_underlying Tryz.underlying3]
theorem run_findI (w : World) (k : Int) (L : List (Int × Value)) : (Instr.findKey 3 (.int .i64 k) (ents L).toList).run Tryz.prog w = .ok (lookL k L 0) w := by
  unfold Instr.findKey ents
  simp [run_underlying Tryz.underlying3, find_ents]
theorem map_ins (T V : TypeId) (hu : Tryz.prog.underlying T = some (.map 3 V)) (w : World) (b : Nat) (L : List (Int × Value)) (k : Int) (v : Value) (hb : w.heap[b]? = some (.map (ents L) L.length)) (hk : lookL k L 0 = none) :
    (Instr.mapUpdate T (.map (some b)) (.int .i64 k) v).run Tryz.prog w = .ok () (setBlock w b (.map (ents (L ++ [(k, v)])) (L.length + 1))) := by
  have h1 := run_findI w k L
  rw [hk] at h1
  have h2 := run_keyI w 9999 (.int .i64 k) false
  simp [Instr.mapUpdate, run_underlying hu, MapKept.run_getObj_map hb, h2, h1, MapKept.run_setObj_map _ hb, Result.andThen, setBlock, ents_push]
theorem map_look (T V : TypeId) (z : Value) (hu : Tryz.prog.underlying T = some (.map 3 V)) (hz : ∀ w, (zeroValue V).run Tryz.prog w = .ok z w) (w : World) (b m : Nat) (L : List (Int × Value)) (k : Int) (hb : w.heap[b]? = some (.map (ents L) m)) :
    (Instr.lookup T (.map (some b)) (.int .i64 k) true).run Tryz.prog w = .ok (.tuple #[match lookL k L 0 with | some x => x.2 | none => z, .bool (lookL k L 0).isSome]) w ∧
    (Instr.lookup T (.map (some b)) (.int .i64 k) false).run Tryz.prog w = .ok (match lookL k L 0 with | some x => x.2 | none => z) w := by
  have h1 := run_findI w k L
  have h2 := fun e => run_keyI w 9999 (.int .i64 k) e
  have h3 := hz w
  cases h : lookL k L 0 with
  | none =>
    rw [h] at h1
    exact ⟨by simp [Instr.lookup, run_underlying hu, MapKept.run_getObj_map hb, h2, h1, h3, Result.andThen], by simp [Instr.lookup, run_underlying hu, MapKept.run_getObj_map hb, h2, h1, h3, Result.andThen]⟩
  | some x =>
    rw [h] at h1
    exact ⟨by simp [Instr.lookup, run_underlying hu, MapKept.run_getObj_map hb, h2, h1, Result.andThen], by simp [Instr.lookup, run_underlying hu, MapKept.run_getObj_map hb, h2, h1, Result.andThen]⟩
theorem map_step (T V : TypeId) (hu : Tryz.prog.underlying T = some (.map 3 V)) (W w : World) (b : Nat) (hb0 : W.heap.size ≤ b) (L : List (Int × Value)) (k : Int) (v : Value) (hb : w.heap[b]? = some (.map (ents L) L.length)) (hB : Below W.heap.size W w) (hk : lookL k L 0 = none) :
    ∃ w', (Instr.mapUpdate T (.map (some b)) (.int .i64 k) v).run Tryz.prog w = .ok () w' ∧ w'.heap[b]? = some (.map (ents (L ++ [(k, v)])) (L ++ [(k, v)]).length) ∧ Below W.heap.size W w' ∧ w'.heap.size = w.heap.size ∧ ∀ i, i ≠ b → w'.heap[i]? = w.heap[i]? :=
  ⟨_, map_ins T V hu w b L k v hb hk, by rw [List.length_append]; exact heap_setBlock_same hb _, hB.grown (row := some b) ⟨rfl, rfl, rfl, by simp [setBlock], fun i _ hi => heap_setBlock_other hb _ (fun e => hi (by rw [e]))⟩ hB.size (fun j hj => by injection hj with hj; omega), by simp [setBlock], fun i hi => heap_setBlock_other hb _ hi⟩
theorem uMapInt : Tryz.prog.underlying 85 = some (.map 3 3) := Tryz.underlying85
theorem uMapBool : Tryz.prog.underlying 87 = some (.map 3 4) := Tryz.underlying87
def codesL (c : Int) : List (Int × Value) := [(1, .int .i64 200), (2, .int .i64 c), (3, .int .i64 403), (4, .int .i64 410), (5, .int .i64 500)]
def movedL : List (Int × Value) := [(301, .bool true), (302, .bool true), (303, .bool true), (307, .bool true), (308, .bool true)]
theorem moved_look (c : Int) : (match lookL c movedL 0 with | some x => x.2 | none => .bool false) = Value.bool (movedC c) := by
  unfold movedL movedC
  simp only [lookL]
  cases h1 : c == 301 <;> cases h2 : c == 302 <;> cases h3 : c == 303 <;> cases h4 : c == 307 <;> cases h5 : c == 308 <;> simp
structure OutP where
  kind : Int
  sp : ByteArray
  sq : ByteArray
  code : Int
  loc : List UInt8
  why : Int
def outC (o : OutP) : Array Value := #[.int .i64 o.kind, .string o.sp, .string o.sq, .int .i64 o.code, .string (bs o.loc), .int .i64 o.why]
def reqC (r : ReqP) (host : ByteArray) (FA : Option Addr) (fn fc : Nat) : Array Value := #[.string (bs r.method), .string (bs r.path), .string (bs r.query), .string host, .slice FA fn fc, .string (bs r.body)]
/-- the boxes of a call of Code -/
def codeW (w : World) (r : ReqP) (host : ByteArray) (FA : Option Addr) (fn fc : Nat) (o : OutP) (fC : Array Value) : World := ((w.alloc (.cells (reqC r host FA fn fc) 33)).alloc (.cells (outC o) 37)).alloc (.cells fC 42)
set_option maxRecDepth 100000 in
/-- both maps laid -/
theorem maps_laid (W : World) (c : Int) : ∃ w1 w2 w3 w4 w5 v1 v2 v3 v4 v5 : World,
    (Instr.mapUpdate 85 (.map (some W.heap.size)) (.int .i64 1) (.int .i64 200)).run Tryz.prog (W.alloc (.map #[] 0)) = .ok () w1 ∧
    (Instr.mapUpdate 85 (.map (some W.heap.size)) (.int .i64 2) (.int .i64 c)).run Tryz.prog w1 = .ok () w2 ∧
    (Instr.mapUpdate 85 (.map (some W.heap.size)) (.int .i64 3) (.int .i64 403)).run Tryz.prog w2 = .ok () w3 ∧
    (Instr.mapUpdate 85 (.map (some W.heap.size)) (.int .i64 4) (.int .i64 410)).run Tryz.prog w3 = .ok () w4 ∧
    (Instr.mapUpdate 85 (.map (some W.heap.size)) (.int .i64 5) (.int .i64 500)).run Tryz.prog w4 = .ok () w5 ∧
    (Instr.mapUpdate 87 (.map (some (W.heap.size + 1))) (.int .i64 301) (.bool true)).run Tryz.prog (w5.alloc (.map #[] 0)) = .ok () v1 ∧
    (Instr.mapUpdate 87 (.map (some (W.heap.size + 1))) (.int .i64 302) (.bool true)).run Tryz.prog v1 = .ok () v2 ∧
    (Instr.mapUpdate 87 (.map (some (W.heap.size + 1))) (.int .i64 303) (.bool true)).run Tryz.prog v2 = .ok () v3 ∧
    (Instr.mapUpdate 87 (.map (some (W.heap.size + 1))) (.int .i64 307) (.bool true)).run Tryz.prog v3 = .ok () v4 ∧
    (Instr.mapUpdate 87 (.map (some (W.heap.size + 1))) (.int .i64 308) (.bool true)).run Tryz.prog v4 = .ok () v5 ∧
    w5.heap.size = W.heap.size + 1 ∧ Below W.heap.size W w1 ∧ Below W.heap.size W w5 ∧ Below W.heap.size W v5 ∧
    (∀ k : Int, (Instr.lookup 85 (.map (some W.heap.size)) (.int .i64 k) true).run Tryz.prog w5 = .ok (.tuple #[match lookL k (codesL c) 0 with | some x => x.2 | none => .int .i64 0, .bool (lookL k (codesL c) 0).isSome]) w5) ∧
    (∀ k : Int, (Instr.lookup 87 (.map (some (W.heap.size + 1))) (.int .i64 k) false).run Tryz.prog v5 = .ok (.bool (movedC k)) v5) := by
  have h0 : (W.alloc (.map #[] 0)).heap[W.heap.size]? = some (.map (ents []) ([] : List (Int × Value)).length) := heap_alloc_new W _
  have b0 : Below W.heap.size W (W.alloc (.map #[] 0)) := (Below.refl _ _).alloc (Nat.le_refl _) _
  have s0 : (W.alloc (.map #[] 0)).heap.size = W.heap.size + 1 := by simp
  obtain ⟨w1, r1, h1, b1, s1, _⟩ := map_step 85 3 uMapInt W _ W.heap.size (Nat.le_refl _) [] 1 (.int .i64 200) h0 b0 rfl
  obtain ⟨w2, r2, h2, b2, s2, _⟩ := map_step 85 3 uMapInt W _ W.heap.size (Nat.le_refl _) _ 2 (.int .i64 c) h1 b1 rfl
  obtain ⟨w3, r3, h3, b3, s3, _⟩ := map_step 85 3 uMapInt W _ W.heap.size (Nat.le_refl _) _ 3 (.int .i64 403) h2 b2 rfl
  obtain ⟨w4, r4, h4, b4, s4, _⟩ := map_step 85 3 uMapInt W _ W.heap.size (Nat.le_refl _) _ 4 (.int .i64 410) h3 b3 rfl
  obtain ⟨w5, r5, h5, b5, s5, _⟩ := map_step 85 3 uMapInt W _ W.heap.size (Nat.le_refl _) _ 5 (.int .i64 500) h4 b4 rfl
  have z5 : w5.heap.size = W.heap.size + 1 := by omega
  have g0 : (w5.alloc (.map #[] 0)).heap[W.heap.size + 1]? = some (.map (ents []) ([] : List (Int × Value)).length) := by rw [← z5]; exact heap_alloc_new w5 _
  have c0 : Below W.heap.size W (w5.alloc (.map #[] 0)) := b5.alloc b5.size _
  obtain ⟨v1, q1, g1, c1, _, _⟩ := map_step 87 4 uMapBool W _ (W.heap.size + 1) (Nat.le_succ _) [] 301 (.bool true) g0 c0 rfl
  obtain ⟨v2, q2, g2, c2, _, _⟩ := map_step 87 4 uMapBool W _ (W.heap.size + 1) (Nat.le_succ _) _ 302 (.bool true) g1 c1 rfl
  obtain ⟨v3, q3, g3, c3, _, _⟩ := map_step 87 4 uMapBool W _ (W.heap.size + 1) (Nat.le_succ _) _ 303 (.bool true) g2 c2 rfl
  obtain ⟨v4, q4, g4, c4, _, _⟩ := map_step 87 4 uMapBool W _ (W.heap.size + 1) (Nat.le_succ _) _ 307 (.bool true) g3 c3 rfl
  obtain ⟨v5, q5, g5, c5, _, _⟩ := map_step 87 4 uMapBool W _ (W.heap.size + 1) (Nat.le_succ _) _ 308 (.bool true) g4 c4 rfl
  refine ⟨w1, w2, w3, w4, w5, v1, v2, v3, v4, v5, r1, r2, r3, r4, r5, q1, q2, q3, q4, q5, z5, b1, b5, c5, fun k => ?_, fun k => ?_⟩
  · exact (map_look 85 3 (.int .i64 0) uMapInt (fun w => by kernel_rfl) w5 W.heap.size _ (codesL c) k h5).1
  · have := (map_look 87 4 (.bool false) uMapBool (fun w => by kernel_rfl) v5 (W.heap.size + 1) _ movedL k g5).2
    rw [moved_look] at this
    exact this
end

section
open Go.RowKit

def outV (o : OutP) : Value := .agg #[.int .i64 o.kind, .string o.sp, .string o.sq, .int .i64 o.code, .string (bs o.loc), .int .i64 o.why]
theorem code_out {m : List UInt8} {kind code : Int} {f : FoundP} (h : kind < 1 ∨ 5 < kind) : codeT m kind code f = (0, 10) := by unfold codeT; rw [if_pos h]
theorem look_out {kind c : Int} (h : kind < 1 ∨ 5 < kind) : lookL kind (codesL c) 0 = none := by
  have e : ∀ k : Int, 1 ≤ k → k ≤ 5 → (kind == k) = false := fun k h1 h2 => by rw [beq_eq_false_iff_ne]; omega
  unfold codesL
  simp only [lookL, e 1 (by omega) (by omega), e 2 (by omega) (by omega), e 3 (by omega) (by omega), e 4 (by omega) (by omega), e 5 (by omega) (by omega), Bool.false_eq_true, if_false]
set_option maxRecDepth 100000 in
set_option maxHeartbeats 16000000 in
theorem pCodeH (f : FoundP) (r : ReqP) (o : OutP) (S N V FA : Option Addr) (cs cn cv fn fc : Nat) (host : ByteArray) (w : World) (hf : FndOk f) :
    Calls Tryz.prog 15 #[reqV r host FA fn fc, outV o, fndV f S N V cs cn cv] w fun e w' => e = .returned (.tuple #[.int .i64 (codeT r.method o.kind o.code f).1, .int .i64 ((codeT r.method o.kind o.code f).2 : Nat)]) ∧ Below w.heap.size w w' := by
  have b3 : Below w.heap.size w (((w.alloc (.cells #[.string (bs r.method), .string (bs r.path), .string (bs r.query), .string host, .slice FA fn fc, .string (bs r.body)] 33)).alloc (.cells #[.int .i64 o.kind, .string o.sp, .string o.sq, .int .i64 o.code, .string (bs o.loc), .int .i64 o.why] 37)).alloc (.cells #[.bool f.ok, .slice S f.segs.length cs, .int .i64 f.kind, .string (bs f.text), .slice N f.names.length cn, .slice V f.vals.length cv, .string (bs f.rest)] 42)) := (((Below.refl _ _).alloc (Nat.le_refl _) _).alloc (by simp) _).alloc (by simp; omega) _
  have kR := ((Blk.new w 33 #[.string (bs r.method), .string (bs r.path), .string (bs r.query), .string host, .slice FA fn fc, .string (bs r.body)]).alloc (.cells #[.int .i64 o.kind, .string o.sp, .string o.sq, .int .i64 o.code, .string (bs o.loc), .int .i64 o.why] 37)).alloc (.cells #[.bool f.ok, .slice S f.segs.length cs, .int .i64 f.kind, .string (bs f.text), .slice N f.names.length cn, .slice V f.vals.length cv, .string (bs f.rest)] 42)
  have kO := (Blk.new (w.alloc (.cells #[.string (bs r.method), .string (bs r.path), .string (bs r.query), .string host, .slice FA fn fc, .string (bs r.body)] 33)) 37 #[.int .i64 o.kind, .string o.sp, .string o.sq, .int .i64 o.code, .string (bs o.loc), .int .i64 o.why]).alloc (.cells #[.bool f.ok, .slice S f.segs.length cs, .int .i64 f.kind, .string (bs f.text), .slice N f.names.length cn, .slice V f.vals.length cv, .string (bs f.rest)] 42)
  have kF := Blk.new ((w.alloc (.cells #[.string (bs r.method), .string (bs r.path), .string (bs r.query), .string host, .slice FA fn fc, .string (bs r.body)] 33)).alloc (.cells #[.int .i64 o.kind, .string o.sp, .string o.sq, .int .i64 o.code, .string (bs o.loc), .int .i64 o.why] 37)) 42 #[.bool f.ok, .slice S f.segs.length cs, .int .i64 f.kind, .string (bs f.text), .slice N f.names.length cn, .slice V f.vals.length cv, .string (bs f.rest)]
  rw [show (w.alloc (.cells #[.string (bs r.method), .string (bs r.path), .string (bs r.query), .string host, .slice FA fn fc, .string (bs r.body)] 33)).heap.size = w.heap.size + 1 by simp] at kO
  rw [show ((w.alloc (.cells #[.string (bs r.method), .string (bs r.path), .string (bs r.query), .string host, .slice FA fn fc, .string (bs r.body)] 33)).alloc (.cells #[.int .i64 o.kind, .string o.sp, .string o.sq, .int .i64 o.code, .string (bs o.loc), .int .i64 o.why] 37)).heap.size = w.heap.size + 1 + 1 by simp] at kF
  obtain ⟨W, hW⟩ : ∃ W, ((w.alloc (.cells #[.string (bs r.method), .string (bs r.path), .string (bs r.query), .string host, .slice FA fn fc, .string (bs r.body)] 33)).alloc (.cells #[.int .i64 o.kind, .string o.sp, .string o.sq, .int .i64 o.code, .string (bs o.loc), .int .i64 o.why] 37)).alloc (.cells #[.bool f.ok, .slice S f.segs.length cs, .int .i64 f.kind, .string (bs f.text), .slice N f.names.length cn, .slice V f.vals.length cv, .string (bs f.rest)] 42) = W := ⟨_, rfl⟩
  have hs : W.heap.size = w.heap.size + 1 + 1 + 1 := by rw [← hW]; simp
  rw [hW] at b3 kR kO kF
  obtain ⟨w1, w2, w3, w4, w5, v1, v2, v3, v4, v5, r1, r2, r3, r4, r5, q1, q2, q3, q4, q5, z5, g1, g5, gv, l1, l2⟩ := maps_laid W o.code
  have kc : ∀ X, Below W.heap.size W X → Blk X w.heap.size 33 #[.string (bs r.method), .string (bs r.path), .string (bs r.query), .string host, .slice FA fn fc, .string (bs r.body)] ∧ Blk X (w.heap.size + 1) 37 #[.int .i64 o.kind, .string o.sp, .string o.sq, .int .i64 o.code, .string (bs o.loc), .int .i64 o.why] ∧ Blk X (w.heap.size + 1 + 1) 42 #[.bool f.ok, .slice S f.segs.length cs, .int .i64 f.kind, .string (bs f.text), .slice N f.names.length cn, .slice V f.vals.length cv, .string (bs f.rest)] ∧ Below w.heap.size w X := fun X hX => ⟨kR.below hX kR.lt, kO.below hX kO.lt, kF.below hX kF.lt, b3.trans (hX.mono b3.size)⟩
  rw [hs] at r1 r2 r3 r4 r5 q1 q2 q3 q4 q5 l1 l2 z5
  have a1 : w1.cell? ⟨w.heap.size + 1, 3, none⟩ = some (.int .i64 o.code) := (kc w1 g1).2.1.cell 3
  have a2 : w5.cell? ⟨w.heap.size + 1, 0, none⟩ = some (.int .i64 o.kind) := (kc w5 g5).2.1.cell 0
  have a3 : v5.cell? ⟨w.heap.size + 1, 0, none⟩ = some (.int .i64 o.kind) := (kc v5 gv).2.1.cell 0
  have a4 : v5.cell? ⟨w.heap.size + 1, 3, none⟩ = some (.int .i64 o.code) := (kc v5 gv).2.1.cell 3
  have f0 : v5.cell? ⟨w.heap.size + 1 + 1, 0, none⟩ = some (.bool f.ok) := (kc v5 gv).2.2.1.cell 0
  have f1 : v5.cell? ⟨w.heap.size + 1 + 1, 1, none⟩ = some (.slice S f.segs.length cs) := (kc v5 gv).2.2.1.cell 1
  have f2 : v5.cell? ⟨w.heap.size + 1 + 1, 2, none⟩ = some (.int .i64 f.kind) := (kc v5 gv).2.2.1.cell 2
  have f3 : v5.cell? ⟨w.heap.size + 1 + 1, 3, none⟩ = some (.string (bs f.text)) := (kc v5 gv).2.2.1.cell 3
  have f4 : v5.cell? ⟨w.heap.size + 1 + 1, 4, none⟩ = some (.slice N f.names.length cn) := (kc v5 gv).2.2.1.cell 4
  have f5 : v5.cell? ⟨w.heap.size + 1 + 1, 5, none⟩ = some (.slice V f.vals.length cv) := (kc v5 gv).2.2.1.cell 5
  have f6 : v5.cell? ⟨w.heap.size + 1 + 1, 6, none⟩ = some (.string (bs f.rest)) := (kc v5 gv).2.2.1.cell 6
  have cC := pCheckF f S N V cs cn cv v5 hf
  unfold fndV at cC
  have CC := Lib.hid cC
  have KC := Lib.hid kc
  have GV := Lib.hid gv
  have L1 := Lib.hid l1
  have L2 := Lib.hid l2
  have m2 := l2 o.code
  have hmm := @run_makeMap Tryz.prog
  clear cC kc gv l1 l2 b3 kR kO kF g1 g5
  unfold reqV outV fndV
  by_cases hk : o.kind < 1 ∨ 5 < o.kind
  · have m1 := L1.out o.kind
    rw [look_out hk] at m1
    simp only [Option.isSome] at m1
    rw [code_out hk]
    clear hk
    go_enter Tryz.func15, Tryz.ntmps15
    go_wp2_with fail
    go_ret2
    exact ⟨rfl, (KC.out _ GV.out).2.2.2⟩
  · have hk5 : o.kind = 1 ∨ o.kind = 2 ∨ o.kind = 3 ∨ o.kind = 4 ∨ o.kind = 5 := by omega
    clear hk
    rcases hk5 with hk | hk | hk | hk | hk
    · rw [hk] at KC a2 a3 hW ⊢
      have m1 : (Instr.lookup 85 (.map (some (w.heap.size + 1 + 1 + 1))) (.int .i64 1) true).run Tryz.prog w5 = .ok (.tuple #[.int .i64 200, .bool true]) w5 := L1.out 1
      by_cases hc : checkF f = 0
      · rw [hc] at CC
        cases ho : f.ok with
        | false =>
          have hr : codeT r.method 1 o.code f = (404, 0) := by unfold codeT; rw [if_neg (by omega), if_neg (by rintro ⟨h, _⟩; omega), if_neg (by simp [hc]), if_neg (by omega), if_neg (by omega), if_neg (by omega), if_neg (by omega), if_pos ho]
          rw [hr]
          rw [ho] at CC KC hW f0
          clear hr hc ho hk
          go_enter Tryz.func15, Tryz.ntmps15
          go_wp2_with fail
          (with_reducible refine (CC.out).mono ?_); rintro e w6 ⟨rfl, g6⟩
          obtain ⟨x1, x2, x3, x4⟩ := KC.out _ (GV.out.trans (g6.mono GV.out.size))
          have y0 : w6.cell? ⟨w.heap.size + 1, 0, none⟩ = some (.int .i64 1) := x2.cell 0
          have y1 : w6.cell? ⟨w.heap.size + 1 + 1, 0, none⟩ = some (.bool false) := x3.cell 0
          have y2 : w6.cell? ⟨w.heap.size, 0, none⟩ = some (.string (bs r.method)) := x1.cell 0
          have G6 := Lib.hid x4
          clear x1 x2 x3 x4 g6 CC
          go_wp2_with fail
          go_ret2
          exact ⟨rfl, G6.out⟩
        | true =>
          have hr0 : codeT r.method 1 o.code f = if knownM r.method = false then (405, 0) else (200, 0) := by unfold codeT; rw [if_neg (by omega), if_neg (by rintro ⟨h, _⟩; omega), if_neg (by simp [hc]), if_neg (by omega), if_neg (by omega), if_neg (by omega), if_neg (by omega), if_neg (by simp [ho])]
          rw [hr0]
          rw [ho] at CC KC hW f0
          clear hr0 hc ho hk
          rcases (show r.method = [71, 69, 84] ∨ (r.method ≠ [71, 69, 84] ∧ r.method = [72, 69, 65, 68]) ∨ (r.method ≠ [71, 69, 84] ∧ r.method ≠ [72, 69, 65, 68] ∧ r.method = [80, 79, 83, 84]) ∨ (r.method ≠ [71, 69, 84] ∧ r.method ≠ [72, 69, 65, 68] ∧ r.method ≠ [80, 79, 83, 84]) by
              by_cases h1 : r.method = [71, 69, 84]
              · exact .inl h1
              · by_cases h2 : r.method = [72, 69, 65, 68]
                · exact .inr (.inl ⟨h1, h2⟩)
                · by_cases h3 : r.method = [80, 79, 83, 84]
                  · exact .inr (.inr (.inl ⟨h1, h2, h3⟩))
                  · exact .inr (.inr (.inr ⟨h1, h2, h3⟩))) with h1 | ⟨h1, h2⟩ | ⟨h1, h2, h3⟩ | ⟨h1, h2, h3⟩
          · have e1 := lit_t h1
            rw [if_neg (by unfold knownM; simp [h1])]
            clear h1
            go_enter Tryz.func15, Tryz.ntmps15
            go_wp2_with fail
            (with_reducible refine (CC.out).mono ?_); rintro e w6 ⟨rfl, g6⟩
            obtain ⟨x1, x2, x3, x4⟩ := KC.out _ (GV.out.trans (g6.mono GV.out.size))
            have y0 : w6.cell? ⟨w.heap.size + 1, 0, none⟩ = some (.int .i64 1) := x2.cell 0
            have y1 : w6.cell? ⟨w.heap.size + 1 + 1, 0, none⟩ = some (.bool true) := x3.cell 0
            have y2 : w6.cell? ⟨w.heap.size, 0, none⟩ = some (.string (bs r.method)) := x1.cell 0
            have G6 := Lib.hid x4
            clear x1 x2 x3 x4 g6 CC
            go_wp2_with fail
            go_ret2
            exact ⟨rfl, G6.out⟩
          · have e1 := lit_f h1
            have e2 := lit_t h2
            rw [if_neg (by unfold knownM; simp [h2])]
            clear h1 h2
            go_enter Tryz.func15, Tryz.ntmps15
            go_wp2_with fail
            (with_reducible refine (CC.out).mono ?_); rintro e w6 ⟨rfl, g6⟩
            obtain ⟨x1, x2, x3, x4⟩ := KC.out _ (GV.out.trans (g6.mono GV.out.size))
            have y0 : w6.cell? ⟨w.heap.size + 1, 0, none⟩ = some (.int .i64 1) := x2.cell 0
            have y1 : w6.cell? ⟨w.heap.size + 1 + 1, 0, none⟩ = some (.bool true) := x3.cell 0
            have y2 : w6.cell? ⟨w.heap.size, 0, none⟩ = some (.string (bs r.method)) := x1.cell 0
            have G6 := Lib.hid x4
            clear x1 x2 x3 x4 g6 CC
            go_wp2_with fail
            go_ret2
            exact ⟨rfl, G6.out⟩
          · have e1 := lit_f h1
            have e2 := lit_f h2
            have e3 := lit_t h3
            rw [if_neg (by unfold knownM; simp [h3])]
            clear h1 h2 h3
            go_enter Tryz.func15, Tryz.ntmps15
            go_wp2_with fail
            (with_reducible refine (CC.out).mono ?_); rintro e w6 ⟨rfl, g6⟩
            obtain ⟨x1, x2, x3, x4⟩ := KC.out _ (GV.out.trans (g6.mono GV.out.size))
            have y0 : w6.cell? ⟨w.heap.size + 1, 0, none⟩ = some (.int .i64 1) := x2.cell 0
            have y1 : w6.cell? ⟨w.heap.size + 1 + 1, 0, none⟩ = some (.bool true) := x3.cell 0
            have y2 : w6.cell? ⟨w.heap.size, 0, none⟩ = some (.string (bs r.method)) := x1.cell 0
            have G6 := Lib.hid x4
            clear x1 x2 x3 x4 g6 CC
            go_wp2_with fail
            go_ret2
            exact ⟨rfl, G6.out⟩
          · have e1 := lit_f h1
            have e2 := lit_f h2
            have e3 := lit_f h3
            rw [if_pos (by unfold knownM; simp [h1, h2, h3])]
            clear h1 h2 h3
            go_enter Tryz.func15, Tryz.ntmps15
            go_wp2_with fail
            (with_reducible refine (CC.out).mono ?_); rintro e w6 ⟨rfl, g6⟩
            obtain ⟨x1, x2, x3, x4⟩ := KC.out _ (GV.out.trans (g6.mono GV.out.size))
            have y0 : w6.cell? ⟨w.heap.size + 1, 0, none⟩ = some (.int .i64 1) := x2.cell 0
            have y1 : w6.cell? ⟨w.heap.size + 1 + 1, 0, none⟩ = some (.bool true) := x3.cell 0
            have y2 : w6.cell? ⟨w.heap.size, 0, none⟩ = some (.string (bs r.method)) := x1.cell 0
            have G6 := Lib.hid x4
            clear x1 x2 x3 x4 g6 CC
            go_wp2_with fail
            go_ret2
            exact ⟨rfl, G6.out⟩
      · have hr : codeT r.method 1 o.code f = (0, checkF f) := by unfold codeT; rw [if_neg (by omega), if_neg (by rintro ⟨h, _⟩; omega), if_pos hc]
        have hne : ((checkF f : Int) != 0) = true := by rw [bne_iff_ne]; omega
        rw [hr]
        obtain ⟨E0, hE0⟩ : ∃ E0, checkF f = E0 := ⟨_, rfl⟩
        rw [hE0] at CC hne ⊢
        clear hr hc hE0 hk
        go_enter Tryz.func15, Tryz.ntmps15
        go_wp2_with fail
        (with_reducible refine (CC.out).mono ?_); rintro e w6 ⟨rfl, g6⟩
        obtain ⟨x1, x2, x3, x4⟩ := KC.out _ (GV.out.trans (g6.mono GV.out.size))
        have y0 : w6.cell? ⟨w.heap.size + 1, 0, none⟩ = some (.int .i64 1) := x2.cell 0
        have y1 : w6.cell? ⟨w.heap.size + 1 + 1, 0, none⟩ = some (.bool f.ok) := x3.cell 0
        have y2 : w6.cell? ⟨w.heap.size, 0, none⟩ = some (.string (bs r.method)) := x1.cell 0
        have G6 := Lib.hid x4
        clear x1 x2 x3 x4 g6 CC
        go_wp2_with fail
        go_ret2
        exact ⟨rfl, G6.out⟩
    · rw [hk] at KC a2 a3 hW ⊢
      have m1 : (Instr.lookup 85 (.map (some (w.heap.size + 1 + 1 + 1))) (.int .i64 2) true).run Tryz.prog w5 = .ok (.tuple #[.int .i64 o.code, .bool true]) w5 := L1.out 2
      cases hmv : movedC o.code with
      | false =>
        have hr : codeT r.method 2 o.code f = (0, 2) := by unfold codeT; rw [if_neg (by omega), if_pos ⟨rfl, hmv⟩]
        rw [hmv] at m2
        rw [hr]
        clear hmv hr hk
        go_enter Tryz.func15, Tryz.ntmps15
        go_wp2_with fail
        go_ret2
        exact ⟨rfl, (KC.out _ GV.out).2.2.2⟩
      | true =>
        rw [hmv] at m2
        by_cases hc : checkF f = 0
        · rw [hc] at CC
          have hr : codeT r.method 2 o.code f = (o.code, 0) := by unfold codeT; rw [if_neg (by omega), if_neg (by rintro ⟨_, h⟩; rw [hmv] at h; cases h), if_neg (by simp [hc]), if_pos rfl]
          rw [hr]
          clear hr hc hk hmv
          go_enter Tryz.func15, Tryz.ntmps15
          go_wp2_with fail
          (with_reducible refine (CC.out).mono ?_); rintro e w6 ⟨rfl, g6⟩
          obtain ⟨x1, x2, x3, x4⟩ := KC.out _ (GV.out.trans (g6.mono GV.out.size))
          have y0 : w6.cell? ⟨w.heap.size + 1, 0, none⟩ = some (.int .i64 2) := x2.cell 0
          have y1 : w6.cell? ⟨w.heap.size + 1 + 1, 0, none⟩ = some (.bool f.ok) := x3.cell 0
          have y2 : w6.cell? ⟨w.heap.size, 0, none⟩ = some (.string (bs r.method)) := x1.cell 0
          have G6 := Lib.hid x4
          clear x1 x2 x3 x4 g6 CC
          go_wp2_with fail
          go_ret2
          exact ⟨rfl, G6.out⟩
        · have hr : codeT r.method 2 o.code f = (0, checkF f) := by unfold codeT; rw [if_neg (by omega), if_neg (by rintro ⟨_, h⟩; rw [hmv] at h; cases h), if_pos hc]
          have hne : ((checkF f : Int) != 0) = true := by rw [bne_iff_ne]; omega
          rw [hr]
          obtain ⟨E0, hE0⟩ : ∃ E0, checkF f = E0 := ⟨_, rfl⟩
          rw [hE0] at CC hne ⊢
          clear hr hc hE0 hk hmv
          go_enter Tryz.func15, Tryz.ntmps15
          go_wp2_with fail
          (with_reducible refine (CC.out).mono ?_); rintro e w6 ⟨rfl, g6⟩
          obtain ⟨x1, x2, x3, x4⟩ := KC.out _ (GV.out.trans (g6.mono GV.out.size))
          have y0 : w6.cell? ⟨w.heap.size + 1, 0, none⟩ = some (.int .i64 2) := x2.cell 0
          have y1 : w6.cell? ⟨w.heap.size + 1 + 1, 0, none⟩ = some (.bool f.ok) := x3.cell 0
          have y2 : w6.cell? ⟨w.heap.size, 0, none⟩ = some (.string (bs r.method)) := x1.cell 0
          have G6 := Lib.hid x4
          clear x1 x2 x3 x4 g6 CC
          go_wp2_with fail
          go_ret2
          exact ⟨rfl, G6.out⟩
    · rw [hk] at KC a2 a3 hW ⊢
      have m1 : (Instr.lookup 85 (.map (some (w.heap.size + 1 + 1 + 1))) (.int .i64 3) true).run Tryz.prog w5 = .ok (.tuple #[.int .i64 403, .bool true]) w5 := L1.out 3
      by_cases hc : checkF f = 0
      · rw [hc] at CC
        have hr : codeT r.method 3 o.code f = (403, 0) := by unfold codeT; rw [if_neg (by omega), if_neg (by rintro ⟨h, _⟩; omega), if_neg (by simp [hc]), if_neg (by omega), if_pos rfl]
        rw [hr]
        clear hr hc hk
        go_enter Tryz.func15, Tryz.ntmps15
        go_wp2_with fail
        (with_reducible refine (CC.out).mono ?_); rintro e w6 ⟨rfl, g6⟩
        obtain ⟨x1, x2, x3, x4⟩ := KC.out _ (GV.out.trans (g6.mono GV.out.size))
        have y0 : w6.cell? ⟨w.heap.size + 1, 0, none⟩ = some (.int .i64 3) := x2.cell 0
        have y1 : w6.cell? ⟨w.heap.size + 1 + 1, 0, none⟩ = some (.bool f.ok) := x3.cell 0
        have y2 : w6.cell? ⟨w.heap.size, 0, none⟩ = some (.string (bs r.method)) := x1.cell 0
        have G6 := Lib.hid x4
        clear x1 x2 x3 x4 g6 CC
        go_wp2_with fail
        go_ret2
        exact ⟨rfl, G6.out⟩
      · have hr : codeT r.method 3 o.code f = (0, checkF f) := by unfold codeT; rw [if_neg (by omega), if_neg (by rintro ⟨h, _⟩; omega), if_pos hc]
        have hne : ((checkF f : Int) != 0) = true := by rw [bne_iff_ne]; omega
        rw [hr]
        obtain ⟨E0, hE0⟩ : ∃ E0, checkF f = E0 := ⟨_, rfl⟩
        rw [hE0] at CC hne ⊢
        clear hr hc hE0 hk
        go_enter Tryz.func15, Tryz.ntmps15
        go_wp2_with fail
        (with_reducible refine (CC.out).mono ?_); rintro e w6 ⟨rfl, g6⟩
        obtain ⟨x1, x2, x3, x4⟩ := KC.out _ (GV.out.trans (g6.mono GV.out.size))
        have y0 : w6.cell? ⟨w.heap.size + 1, 0, none⟩ = some (.int .i64 3) := x2.cell 0
        have y1 : w6.cell? ⟨w.heap.size + 1 + 1, 0, none⟩ = some (.bool f.ok) := x3.cell 0
        have y2 : w6.cell? ⟨w.heap.size, 0, none⟩ = some (.string (bs r.method)) := x1.cell 0
        have G6 := Lib.hid x4
        clear x1 x2 x3 x4 g6 CC
        go_wp2_with fail
        go_ret2
        exact ⟨rfl, G6.out⟩
    · rw [hk] at KC a2 a3 hW ⊢
      have m1 : (Instr.lookup 85 (.map (some (w.heap.size + 1 + 1 + 1))) (.int .i64 4) true).run Tryz.prog w5 = .ok (.tuple #[.int .i64 410, .bool true]) w5 := L1.out 4
      by_cases hc : checkF f = 0
      · rw [hc] at CC
        have hr : codeT r.method 4 o.code f = (410, 0) := by unfold codeT; rw [if_neg (by omega), if_neg (by rintro ⟨h, _⟩; omega), if_neg (by simp [hc]), if_neg (by omega), if_neg (by omega), if_pos rfl]
        rw [hr]
        clear hr hc hk
        go_enter Tryz.func15, Tryz.ntmps15
        go_wp2_with fail
        (with_reducible refine (CC.out).mono ?_); rintro e w6 ⟨rfl, g6⟩
        obtain ⟨x1, x2, x3, x4⟩ := KC.out _ (GV.out.trans (g6.mono GV.out.size))
        have y0 : w6.cell? ⟨w.heap.size + 1, 0, none⟩ = some (.int .i64 4) := x2.cell 0
        have y1 : w6.cell? ⟨w.heap.size + 1 + 1, 0, none⟩ = some (.bool f.ok) := x3.cell 0
        have y2 : w6.cell? ⟨w.heap.size, 0, none⟩ = some (.string (bs r.method)) := x1.cell 0
        have G6 := Lib.hid x4
        clear x1 x2 x3 x4 g6 CC
        go_wp2_with fail
        go_ret2
        exact ⟨rfl, G6.out⟩
      · have hr : codeT r.method 4 o.code f = (0, checkF f) := by unfold codeT; rw [if_neg (by omega), if_neg (by rintro ⟨h, _⟩; omega), if_pos hc]
        have hne : ((checkF f : Int) != 0) = true := by rw [bne_iff_ne]; omega
        rw [hr]
        obtain ⟨E0, hE0⟩ : ∃ E0, checkF f = E0 := ⟨_, rfl⟩
        rw [hE0] at CC hne ⊢
        clear hr hc hE0 hk
        go_enter Tryz.func15, Tryz.ntmps15
        go_wp2_with fail
        (with_reducible refine (CC.out).mono ?_); rintro e w6 ⟨rfl, g6⟩
        obtain ⟨x1, x2, x3, x4⟩ := KC.out _ (GV.out.trans (g6.mono GV.out.size))
        have y0 : w6.cell? ⟨w.heap.size + 1, 0, none⟩ = some (.int .i64 4) := x2.cell 0
        have y1 : w6.cell? ⟨w.heap.size + 1 + 1, 0, none⟩ = some (.bool f.ok) := x3.cell 0
        have y2 : w6.cell? ⟨w.heap.size, 0, none⟩ = some (.string (bs r.method)) := x1.cell 0
        have G6 := Lib.hid x4
        clear x1 x2 x3 x4 g6 CC
        go_wp2_with fail
        go_ret2
        exact ⟨rfl, G6.out⟩
    · rw [hk] at KC a2 a3 hW ⊢
      have m1 : (Instr.lookup 85 (.map (some (w.heap.size + 1 + 1 + 1))) (.int .i64 5) true).run Tryz.prog w5 = .ok (.tuple #[.int .i64 500, .bool true]) w5 := L1.out 5
      by_cases hc : checkF f = 0
      · rw [hc] at CC
        have hr : codeT r.method 5 o.code f = (500, 0) := by unfold codeT; rw [if_neg (by omega), if_neg (by rintro ⟨h, _⟩; omega), if_neg (by simp [hc]), if_neg (by omega), if_neg (by omega), if_neg (by omega), if_pos rfl]
        rw [hr]
        clear hr hc hk
        go_enter Tryz.func15, Tryz.ntmps15
        go_wp2_with fail
        (with_reducible refine (CC.out).mono ?_); rintro e w6 ⟨rfl, g6⟩
        obtain ⟨x1, x2, x3, x4⟩ := KC.out _ (GV.out.trans (g6.mono GV.out.size))
        have y0 : w6.cell? ⟨w.heap.size + 1, 0, none⟩ = some (.int .i64 5) := x2.cell 0
        have y1 : w6.cell? ⟨w.heap.size + 1 + 1, 0, none⟩ = some (.bool f.ok) := x3.cell 0
        have y2 : w6.cell? ⟨w.heap.size, 0, none⟩ = some (.string (bs r.method)) := x1.cell 0
        have G6 := Lib.hid x4
        clear x1 x2 x3 x4 g6 CC
        go_wp2_with fail
        go_ret2
        exact ⟨rfl, G6.out⟩
      · have hr : codeT r.method 5 o.code f = (0, checkF f) := by unfold codeT; rw [if_neg (by omega), if_neg (by rintro ⟨h, _⟩; omega), if_pos hc]
        have hne : ((checkF f : Int) != 0) = true := by rw [bne_iff_ne]; omega
        rw [hr]
        obtain ⟨E0, hE0⟩ : ∃ E0, checkF f = E0 := ⟨_, rfl⟩
        rw [hE0] at CC hne ⊢
        clear hr hc hE0 hk
        go_enter Tryz.func15, Tryz.ntmps15
        go_wp2_with fail
        (with_reducible refine (CC.out).mono ?_); rintro e w6 ⟨rfl, g6⟩
        obtain ⟨x1, x2, x3, x4⟩ := KC.out _ (GV.out.trans (g6.mono GV.out.size))
        have y0 : w6.cell? ⟨w.heap.size + 1, 0, none⟩ = some (.int .i64 5) := x2.cell 0
        have y1 : w6.cell? ⟨w.heap.size + 1 + 1, 0, none⟩ = some (.bool f.ok) := x3.cell 0
        have y2 : w6.cell? ⟨w.heap.size, 0, none⟩ = some (.string (bs r.method)) := x1.cell 0
        have G6 := Lib.hid x4
        clear x1 x2 x3 x4 g6 CC
        go_wp2_with fail
        go_ret2
        exact ⟨rfl, G6.out⟩
end

section
open Go.RowKit

/-- what the walks of handlers ask of a world -/
structure Tab42 (w : World) : Prop where
  codes : Codes w
  tabs : Tabs w
  m : MaxL w
theorem Tab42.below {w w' : World} (h : Tab42 w) (hb : Below w.heap.size w w') : Tab42 w' := ⟨h.codes.below hb, h.tabs.below hb, h.m.below hb⟩
theorem page_none {c : Int} (h : reasonR c = none) : pageT c = ([], 10) := by unfold pageT; rw [h]
theorem page_some {c : Int} {x : List UInt8} (h : reasonR c = some x) : pageT c = (Lib.decDigits c.toNat ++ [32] ++ x ++ [10], 0) := by unfold pageT; rw [h]
set_option maxRecDepth 100000 in
theorem pPage (c : Int) (w : World) (hT : Tab42 w) :
    Calls Tryz.prog 37 #[.int .i64 c] w fun e w' => e = .returned (.tuple #[.string (bs (pageT c).1), .int .i64 ((pageT c).2 : Nat)]) ∧ Below w.heap.size w w' := by
  have cR := Reason_any c w hT.codes
  cases h : reasonR c with
  | none =>
    rw [page_none h]
    have he : errR c = 10 := by unfold errR; rw [if_pos h]
    rw [h, he] at cR
    have CR := Lib.hid cR
    clear cR h he hT
    go_enter Tryz.func37, Tryz.ntmps37
    go_wp2_with fail
    (with_reducible refine (CR.out).mono ?_); rintro e w1 ⟨rfl, g1⟩
    go_wp2_with fail
    go_ret2
    exact ⟨rfl, g1⟩
  | some x =>
    rw [page_some h]
    have he : errR c = 0 := by unfold errR; rw [h]; simp
    obtain ⟨y, hy, hyc⟩ := reason_mem (c := c) (by rw [h]; simp)
    obtain ⟨i, hi, e1, e2⟩ := codes_at hy
    have hle := codeN_le i hi
    have hsl := codeS_len i hi
    have hra := reason_at ⟨i, hi⟩
    simp only at hra
    rw [e1, hyc, h] at hra
    have hx : x = codeS i := Option.some.inj hra
    rw [← hx] at hsl
    rw [e1] at hle
    obtain ⟨m, hm⟩ : ∃ m, y.1 = m := ⟨_, rfl⟩
    rw [hm] at hyc hle
    subst hyc
    rw [h, he] at cR
    have hdl := dec_len m hle
    obtain ⟨D, hD⟩ : ∃ D, (⟨(Lib.decDigits m).toArray⟩ : ByteArray) = D := ⟨_, rfl⟩
    have cI := fun X (hX : Below w.heap.size w X) => Itoa_any m (by omega) X (hT.tabs.below hX)
    rw [hD] at cI
    obtain ⟨R, hR⟩ : ∃ R, bs x = R := ⟨_, rfl⟩
    have hDz : D.size ≤ 100 := by rw [← hD]; show (bs (Lib.decDigits m)).size ≤ 100; rw [bs_size]; omega
    have hRz : R.size ≤ 100 := by rw [← hR, bs_size]; omega
    have hcat : D ++ ⟨#[32]⟩ ++ R ++ ⟨#[10]⟩ = bs (Lib.decDigits (m : Int).toNat ++ [32] ++ x ++ [10]) := by
      rw [← hD, ← hR, Int.toNat_natCast, show (⟨(Lib.decDigits m).toArray⟩ : ByteArray) = bs (Lib.decDigits m) from rfl, show (⟨#[32]⟩ : ByteArray) = bs [32] from rfl, show (⟨#[10]⟩ : ByteArray) = bs [10] from rfl, bs_app, bs_app, bs_app]
    rw [show (some x : Option (List UInt8)).getD [] = x from rfl, hR] at cR
    have CR := Lib.hid cR
    have CI := Lib.hid cI
    have HC := Lib.hid hcat
    have s1 : ¬ 9223372036854775806 < D.size := by omega
    have s2 : ¬ 9223372036854775807 < D.size + 1 + R.size := by omega
    have s3 : ¬ 9223372036854775806 < D.size + 1 + R.size := by omega
    clear cR cI hcat hD hR h he hy hi e1 e2 hra hx hm hT hdl hsl
    go_enter Tryz.func37, Tryz.ntmps37
    go_wp2_with fail
    (with_reducible refine (CR.out).mono ?_); rintro e w1 ⟨rfl, g1⟩
    have G1 := Lib.hid g1
    have CI1 := Lib.hid (CI.out w1 g1)
    clear g1
    go_wp2_with fail
    (with_reducible refine (CI1.out).mono ?_); rintro e w2 ⟨rfl, g2⟩
    go_wp2_with fail
    go_ret2
    exact ⟨by rw [← HC.out]; rfl, G1.out.trans (g2.mono G1.out.size)⟩
theorem index_mem (c : UInt8) : ∀ l : List UInt8, c ∈ l → Lib.index l [c] ≠ -1
  | [], h => by cases h
  | b :: l, h => by
    rw [Lib.index]
    by_cases hb : c = b
    · subst hb; simp [List.isPrefixOf]
    · have hl : c ∈ l := by
        rcases List.mem_cons.1 h with h | h
        · exact absurd h hb
        · exact h
      have ih := index_mem c l hl
      have hb' : (c == b) = false := by rw [beq_eq_false_iff_ne]; exact hb
      rcases index_hit l [c] with h2 | ⟨a, r, _, h2⟩
      · exact absurd h2 ih
      · rw [h2]
        have h3 : ((a.length : Int) == -1) = false := by rw [beq_eq_false_iff_ne]; omega
        simp [List.isPrefixOf, hb', h3]
        omega
theorem contains_one (c : UInt8) (l : List UInt8) : Lib.contains l [c] = decide (c ∈ l) := by
  unfold Lib.contains
  by_cases h : c ∈ l
  · have := index_mem c l h
    rcases index_hit l [c] with h2 | ⟨a, r, _, h2⟩
    · exact absurd h2 this
    · rw [h2, decide_eq_true h, decide_eq_true (by omega)]
  · rw [decide_eq_false h]
    rcases index_hit l [c] with h2 | ⟨a, r, h1, _⟩
    · rw [h2]; rfl
    · exact absurd (by rw [h1]; simp) h
theorem prefix_slash (s : List UInt8) : Lib.hasPrefix s [47] = decide (s.head? = some 47) := by
  unfold Lib.hasPrefix
  cases s with
  | nil => rfl
  | cons x t =>
    by_cases h : x = 47
    · subst h; simp [List.isPrefixOf]
    · have : ¬ 47 = x := fun e => h e.symm
      simp [List.isPrefixOf, h, this]
theorem pSplit (s : List UInt8) (w : World) (hs : s.length ≤ 1000000) (h : MaxL w) :
    Calls Tryz.prog 82 #[.string (bs s), .string ⟨#[47]⟩] w fun e w' => e = .returned (.slice (some ⟨w.heap.size, 0, none⟩) (splitC 47 s).length (splitC 47 s).length) ∧ Reads w' w'.heap.size 1 (some ⟨w.heap.size, 0, none⟩) (splitC 47 s).length (strs (splitC 47 s)) ∧ Below w.heap.size w w' := by
  obtain ⟨m, hm⟩ := h
  have hlen := Lib.splitB_all ⟨#[47]⟩ (by decide) 0 _ (bs s) rfl
  have hp := pieces (bs s) 47
  rw [bs_list] at hp
  refine (Tryz.strings_Split (bs s) ⟨#[47]⟩ m w (by rw [bs_size]; omega) hm (by decide)).mono ?_
  rintro e w' ⟨rfl, rfl⟩
  have hl : (splitC 47 s).length = Lib.countB (bs s) ⟨#[47]⟩ + 1 := by rw [← hlen, ← hp, List.length_map]
  have hc : ((Lib.splitB ⟨#[47]⟩ 0 (Lib.countB (bs s) ⟨#[47]⟩) (bs s)).map Value.string).toArray.toList = strs (splitC 47 s) := by
    rw [← hp]
    simp only [strs, List.map_map]
    rfl
  have hr := reads_new w 9 (splitC 47 s) ((Lib.splitB ⟨#[47]⟩ 0 (Lib.countB (bs s) ⟨#[47]⟩) (bs s)).map Value.string).toArray hc
  exact ⟨by rw [hl], hr, (Below.refl _ _).alloc (Nat.le_refl _) _⟩
theorem any_succ (L : List (List UInt8)) (k : Nat) (h : k < L.length) : (L.take (k + 1)).any dotB = ((L.take k).any dotB || dotB L[k]) := by
  rw [List.take_succ_eq_append_getElem h, List.any_append]; simp
theorem pContains0 (s : List UInt8) (w : World) (hs : s.length ≤ 1000000) (h : MaxL w) :
    Calls Tryz.prog 81 #[.string (bs s), .string ⟨#[0]⟩] w fun e w' => e = .returned (.bool (decide ((0 : UInt8) ∈ s))) ∧ w' = w := by
  obtain ⟨m, hm⟩ := h
  have := Tryz.strings_Contains (bs s) ⟨#[0]⟩ m w (by rw [bs_size]; omega) hm
  rw [bs_list, show (⟨#[0]⟩ : ByteArray).data.toList = [0] from rfl, contains_one] at this
  exact this
set_option maxRecDepth 100000 in
set_option maxHeartbeats 8000000 in
theorem pUnder (top rest : List UInt8) (w : World) (h1 : top.length ≤ 100000) (h2 : rest.length ≤ 100000) (hT : Tab42 w) :
    Calls Tryz.prog 54 #[.string (bs top), .string (bs rest)] w fun e w' => e = .returned (.tuple #[.string (bs (underT top rest).1), .int .i64 ((underT top rest).2 : Nat)]) ∧ Below w.heap.size w w' := by
  have cR := pRoot top w (by omega)
  have cC := fun X (hX : MaxL X) => pContains0 rest X (by omega) hX
  have hu : underT top rest = if ((!rootT top || decide ((0 : UInt8) ∈ rest)) || (splitC 47 rest).any dotB) = true then ([], 3) else if rest = [] ∨ top.getLast? = some 47 ∨ rest.head? = some 47 then (top ++ rest, 0) else (top ++ 47 :: rest, 0) := by
    unfold underT
    by_cases hr : rootT top = true
    · by_cases hz : (0 : UInt8) ∈ rest
      · simp [hr, hz]
      · simp [hr, hz]
    · have : rootT top = false := by simpa using hr
      simp [this]
  have HU := Lib.hid hu
  obtain ⟨L, hL⟩ : ∃ L, splitC 47 rest = L := ⟨_, rfl⟩
  have cS := fun X (hX : MaxL X) => pSplit rest X (by omega) hX
  have hls := (splitC_len 47 rest).1
  rw [hL] at cS hls HU
  have cF := fun X => Tryz.strings_HasSuffix (bs top) ⟨#[47]⟩ X (by rw [bs_size]; omega)
  rw [bs_list, show (⟨#[47]⟩ : ByteArray).data.toList = [47] from rfl, suffix_slash] at cF
  have cG := fun X => Tryz.strings_HasPrefix (bs rest) ⟨#[47]⟩ X
  rw [bs_list, show (⟨#[47]⟩ : ByteArray).data.toList = [47] from rfl, prefix_slash] at cG
  have z1 := bs_size top
  have z2 := bs_size rest
  obtain ⟨rt, hrt⟩ : ∃ rt, rootT top = rt := ⟨_, rfl⟩
  obtain ⟨zr, hzr⟩ : ∃ zr, decide ((0 : UInt8) ∈ rest) = zr := ⟨_, rfl⟩
  rw [hrt] at cR HU
  rw [hzr] at cC HU
  have CR := Lib.hid cR
  have CC := Lib.hid cC
  have CS := Lib.hid cS
  have CF := Lib.hid cF
  have CG := Lib.hid cG
  have HT := Lib.hid hT
  clear cR cC cS cF cG hT hu hL hrt hzr
  have sz1 : ¬ 9223372036854775807 < top.length + rest.length := by omega
  have sz2 : ¬ 9223372036854775806 < top.length := by omega
  have sz3 : ¬ 9223372036854775807 < top.length + 1 + rest.length := by omega
  cases rt with
  | false =>
    go_enter Tryz.func54, Tryz.ntmps54
    go_wp2_with fail
    (with_reducible refine (CR.out).mono ?_); rintro e w1 ⟨rfl, g1⟩
    have T1 := HT.out.below g1
    have CC1 := Lib.hid (CC.out w1 T1.m)
    have CS1 := Lib.hid (CS.out w1 T1.m)
    have G1 := Lib.hid g1
    clear g1 T1 CC CS CR HT
    go_wp2_with fail
    (with_reducible refine (CS1.out).mono ?_); rintro e w2 ⟨rfl, hr2, g2⟩
    have G2 := Lib.hid (G1.out.trans (g2.mono G1.out.size))
    have HR := Lib.hid hr2
    clear g2 hr2 CS1 CC1
    go_wp2_with fail
    go_loopw [6, 19] (fun b i wr => ∃ k : Nat, b = .bool true ∧ i = .int .i64 k ∧ k ≤ L.length ∧ wr = w2) (fun _ i _ => L.length - (intOf i).toNat)
    case atStart => exact ⟨0, rfl, rfl, by omega, rfl⟩
    case round =>
      obtain ⟨k, rfl, rfl, hk, rfl⟩ := hrel
      by_cases hlt : k < L.length
      · obtain ⟨b, o, hA, _, c⟩ := HR.out.text k hlt
        simp only [Option.some.injEq, Addr.mk.injEq, and_true] at hA
        obtain ⟨rfl, rfl⟩ := hA
        rw [Nat.zero_add] at c
        go_wp2_with fail
        go_roundw
        case rel => exact ⟨k + 1, rfl, by go_num, by omega, trivial⟩
        case measure => simp [intOf]; omega
      · obtain rfl : k = L.length := by omega
        go_wp2_with fail
        go_ret2
        exact ⟨by rw [HU.out, if_pos (by simp)]; rfl, G2.out⟩
  | true =>
    cases zr with
    | true =>
      go_enter Tryz.func54, Tryz.ntmps54
      go_wp2_with fail
      (with_reducible refine (CR.out).mono ?_); rintro e w1 ⟨rfl, g1⟩
      have T1 := HT.out.below g1
      have CC1 := Lib.hid (CC.out w1 T1.m)
      have CS1 := Lib.hid (CS.out w1 T1.m)
      have G1 := Lib.hid g1
      clear g1 T1 CC CS CR HT
      go_wp2_with fail
      (with_reducible refine (CC1.out).mono ?_); rintro e w1' ⟨rfl, rfl⟩
      go_wp2_with fail
      (with_reducible refine (CS1.out).mono ?_); rintro e w2 ⟨rfl, hr2, g2⟩
      have G2 := Lib.hid (G1.out.trans (g2.mono G1.out.size))
      have HR := Lib.hid hr2
      clear g2 hr2 CS1 CC1
      go_wp2_with fail
      go_loopw [6, 19] (fun b i wr => ∃ k : Nat, b = .bool true ∧ i = .int .i64 k ∧ k ≤ L.length ∧ wr = w2) (fun _ i _ => L.length - (intOf i).toNat)
      case atStart => exact ⟨0, rfl, rfl, by omega, rfl⟩
      case round =>
        obtain ⟨k, rfl, rfl, hk, rfl⟩ := hrel
        by_cases hlt : k < L.length
        · obtain ⟨b, o, hA, _, c⟩ := HR.out.text k hlt
          simp only [Option.some.injEq, Addr.mk.injEq, and_true] at hA
          obtain ⟨rfl, rfl⟩ := hA
          rw [Nat.zero_add] at c
          go_wp2_with fail
          go_roundw
          case rel => exact ⟨k + 1, rfl, by go_num, by omega, trivial⟩
          case measure => simp [intOf]; omega
        · obtain rfl : k = L.length := by omega
          go_wp2_with fail
          go_ret2
          exact ⟨by rw [HU.out, if_pos (by simp)]; rfl, G2.out⟩
    | false =>
      go_enter Tryz.func54, Tryz.ntmps54
      go_wp2_with fail
      (with_reducible refine (CR.out).mono ?_); rintro e w1 ⟨rfl, g1⟩
      have T1 := HT.out.below g1
      have CC1 := Lib.hid (CC.out w1 T1.m)
      have CS1 := Lib.hid (CS.out w1 T1.m)
      have G1 := Lib.hid g1
      clear g1 T1 CC CS CR HT
      go_wp2_with fail
      (with_reducible refine (CC1.out).mono ?_); rintro e w1' ⟨rfl, rfl⟩
      go_wp2_with fail
      (with_reducible refine (CS1.out).mono ?_); rintro e w2 ⟨rfl, hr2, g2⟩
      have G2 := Lib.hid (G1.out.trans (g2.mono G1.out.size))
      have HR := Lib.hid hr2
      clear g2 hr2 CS1 CC1
      go_wp2_with fail
      go_loopw [6, 19] (fun b i wr => ∃ k : Nat, b = .bool ((L.take k).any dotB) ∧ i = .int .i64 k ∧ k ≤ L.length ∧ wr = w2) (fun _ i _ => L.length - (intOf i).toNat)
      case atStart => exact ⟨0, rfl, rfl, by omega, rfl⟩
      case round =>
        obtain ⟨k, rfl, rfl, hk, rfl⟩ := hrel
        by_cases hlt : k < L.length
        · obtain ⟨b, o, hA, _, c⟩ := HR.out.text k hlt
          simp only [Option.some.injEq, Addr.mk.injEq, and_true] at hA
          obtain ⟨rfl, rfl⟩ := hA
          rw [Nat.zero_add] at c
          have hsu := Lib.hid (any_succ L k hlt)
          obtain ⟨y, hy⟩ : ∃ y, L[k] = y := ⟨_, rfl⟩
          rw [hy] at c hsu
          clear hy
          cases hb : (L.take k).any dotB with
          | true =>
            rw [hb] at hsu
            clear hb
            go_wp2_with fail
            go_roundw
            case rel => exact ⟨k + 1, by rw [hsu.out]; simp, by go_num, by omega, trivial⟩
            case measure => simp [intOf]; omega
          | false =>
            rw [hb] at hsu
            clear hb
            by_cases h46 : y = [46]
            · have e1 := lit_t h46
              have hd : dotB y = true := by unfold dotB; simp [h46]
              rw [hd] at hsu
              clear h46 hd
              go_wp2_with fail
              go_roundw
              case rel => exact ⟨k + 1, by rw [hsu.out]; simp, by go_num, by omega, trivial⟩
              case measure => simp [intOf]; omega
            · have e1 := lit_f h46
              by_cases h47 : y = [46, 46]
              · have e2 := lit_t h47
                have hd : dotB y = true := by unfold dotB; simp [h47]
                rw [hd] at hsu
                clear h46 h47 hd
                go_wp2_with fail
                go_roundw
                case rel => exact ⟨k + 1, by rw [hsu.out]; simp, by go_num, by omega, trivial⟩
                case measure => simp [intOf]; omega
              · have e2 := lit_f h47
                have hd : dotB y = false := by unfold dotB; simp [h46, h47]
                rw [hd] at hsu
                clear h46 h47 hd
                go_wp2_with fail
                go_roundw
                case rel => exact ⟨k + 1, by rw [hsu.out]; simp, by go_num, by omega, trivial⟩
                case measure => simp [intOf]; omega
        · obtain rfl : k = L.length := by omega
          rw [List.take_length] at *
          cases hb : L.any dotB with
          | true =>
            rw [hb] at HU
            clear hb
            go_wp2_with fail
            go_ret2
            exact ⟨by rw [HU.out, if_pos (by simp)]; rfl, G2.out⟩
          | false =>
            rw [hb] at HU
            clear hb
            by_cases hre : rest = []
            · obtain ⟨m1, m2⟩ := emp_bs hre
              have HU2 := Lib.hid (show underT top rest = (top ++ rest, 0) by rw [HU.out, if_neg (by simp), if_pos (.inl hre)])
              have hcat := Lib.hid (bs_app top rest)
              clear hre
              go_wp2_with fail
              go_ret2
              exact ⟨by rw [HU2.out, ← hcat.out]; rfl, G2.out⟩
            · obtain ⟨m1, m2⟩ := nemp_bs hre
              cases ht : decide (top.getLast? = some 47) with
              | true =>
                have ht' := of_decide_eq_true ht
                have HU2 := Lib.hid (show underT top rest = (top ++ rest, 0) by rw [HU.out, if_neg (by simp), if_pos (.inr (.inl ht'))])
                have hcat := Lib.hid (bs_app top rest)
                rw [ht] at CF
                clear hre ht ht'
                go_wp2_with fail
                (with_reducible refine (CF.out _).mono ?_); rintro e w4 ⟨rfl, rfl⟩
                go_wp2_with fail
                go_ret2
                exact ⟨by rw [HU2.out, ← hcat.out]; rfl, G2.out⟩
              | false =>
                have ht' := of_decide_eq_false ht
                rw [ht] at CF
                cases hh : decide (rest.head? = some 47) with
                | true =>
                  have hh' := of_decide_eq_true hh
                  have HU2 := Lib.hid (show underT top rest = (top ++ rest, 0) by rw [HU.out, if_neg (by simp), if_pos (.inr (.inr hh'))])
                  have hcat := Lib.hid (bs_app top rest)
                  rw [hh] at CG
                  clear hre ht ht' hh hh'
                  go_wp2_with fail
                  (with_reducible refine (CF.out _).mono ?_); rintro e w4 ⟨rfl, rfl⟩
                  go_wp2_with fail
                  (with_reducible refine (CG.out _).mono ?_); rintro e w5 ⟨rfl, rfl⟩
                  go_wp2_with fail
                  go_ret2
                  exact ⟨by rw [HU2.out, ← hcat.out]; rfl, G2.out⟩
                | false =>
                  have hh' := of_decide_eq_false hh
                  have HU2 := Lib.hid (show underT top rest = (top ++ 47 :: rest, 0) by rw [HU.out, if_neg (by simp), if_neg (by rintro (h | h | h); exact hre h; exact ht' h; exact hh' h)])
                  have hcat := Lib.hid (show bs top ++ ⟨#[47]⟩ ++ bs rest = bs (top ++ 47 :: rest) by rw [show (⟨#[47]⟩ : ByteArray) = bs [47] from rfl, bs_app, bs_app]; simp)
                  rw [hh] at CG
                  clear hre ht ht' hh hh'
                  go_wp2_with fail
                  (with_reducible refine (CF.out _).mono ?_); rintro e w4 ⟨rfl, rfl⟩
                  go_wp2_with fail
                  (with_reducible refine (CG.out _).mono ?_); rintro e w5 ⟨rfl, rfl⟩
                  go_wp2_with fail
                  go_ret2
                  exact ⟨by rw [HU2.out, ← hcat.out]; rfl, G2.out⟩
end

section
open Go.RowKit

def fnd (kind : Int) (text rest : List UInt8) : FoundP := ⟨true, [], kind, text, [], [], rest⟩
theorem ld7 {W : World} {g : Nat} {cs : Array Value} (h : Blk W g 42 cs) (hc : cs.size = 7) : (loadVar 42 ⟨g, 0, none⟩).run Tryz.prog W = .ok (.agg cs) W :=
  run_loadVar_row W g 42 42 cs (0, 0) _ h Tryz.underlying42 rfl (by rw [hc]; kernel_rfl)
theorem results_cellH {fn : Func} {p : Tmp} {ty : TypeId} {P : Program} (h : fn.results = #[.cell p ty]) (tmps : Array Value) (w : World) (g : Nat) (x : Value)
    (hp : tmps.getD p undef = .pointer (some ⟨g, 0, none⟩)) (hl : (loadVar ty ⟨g, 0, none⟩).run P w = .ok x w) : (results fn tmps).run P w = .ok x w := by
  have hp' : tmps[p]?.getD undef = .pointer (some ⟨g, 0, none⟩) := by simpa using hp
  simp [results, h, hp', asAddr, hl]
theorem pFound (kind : Int) (text rest : List UInt8) (w : World) :
    Calls Tryz.prog 39 #[.int .i64 kind, .string (bs text), .string (bs rest)] w fun e w' => e = .returned (fndV (fnd kind text rest) none none none 0 0 0) ∧ Below w.heap.size w w' := by
  have k0 := Lib.hid (Blk.new w 42 #[.bool true, .slice none 0 0, .int .i64 kind, .string (bs text), .slice none 0 0, .slice none 0 0, .string (bs rest)])
  go_enter Tryz.func39, Tryz.ntmps39
  go_wp2_with fail
  refine bodyPost_ret (results_cellH (p := 6) (ty := 42) (by kernel_rfl) _ _ w.heap.size _ rfl (ld7 k0.out rfl)) rfl ?_
  exact ⟨rfl, (Below.refl _ _).alloc (Nat.le_refl _) _⟩
theorem eqT (a b : List UInt8) : ((bs a).toList == (bs b).toList) = (a == b) := by rw [bs_toList, bs_toList]
set_option maxRecDepth 100000 in
theorem pSays (f : FoundP) (r : ReqP) (S N V FA : Option Addr) (cs cn cv fn fc : Nat) (host : ByteArray) (want : List UInt8) (w : World) (hl : LightF f r)
    (hN : Reads w w.heap.size 1 N f.names.length (strs f.names)) (hV : Reads w w.heap.size 1 V f.vals.length (strs f.vals)) (hok : (bodyT f r).2 = 0) (hw : (bodyT f r).1 = want) :
    Calls Tryz.prog 38 #[fndV f S N V cs cn cv, reqV r host FA fn fc, .string (bs want)] w fun e w' => e = .returned (.bool true) ∧ Below w.heap.size w w' := by
  have b2 : Below w.heap.size w ((w.alloc (.cells (fndC f S N V cs cn cv) 42)).alloc (.cells #[.string (bs r.method), .string (bs r.path), .string (bs r.query), .string host, .slice FA fn fc, .string (bs r.body)] 33)) := ((Below.refl _ _).alloc (Nat.le_refl _) _).alloc (by simp) _
  have cB := pBody f r S N V FA cs cn cv fn fc host _ hl ((hN.below b2).more b2.size) ((hV.below b2).more b2.size)
  rw [hok, hw] at cB
  unfold fndC at cB b2
  unfold fndV reqV at *
  have CB := Lib.hid cB
  have B2 := Lib.hid b2
  have e1 : ((bs want).toList == (bs want).toList) = true := by simp
  clear cB b2 hok hw hl hN hV
  go_enter Tryz.func38, Tryz.ntmps38
  go_wp2_with fail
  (with_reducible refine (CB.out).mono ?_); rintro e w1 ⟨rfl, g1⟩
  go_wp2_with fail
  go_ret
  exact ⟨by simp, B2.out.trans (g1.mono B2.out.size)⟩
set_option maxRecDepth 100000 in
theorem pCodes (f : FoundP) (m : List UInt8) (o : OutP) (S N V : Option Addr) (cs cn cv : Nat) (want : Int) (w : World) (hf : FndOk f) (hc : codeT m o.kind o.code f = (want, 0)) :
    Calls Tryz.prog 40 #[.string (bs m), outV o, fndV f S N V cs cn cv, .int .i64 want] w fun e w' => e = .returned (.bool true) ∧ Below w.heap.size w w' := by
  have b2 : Below w.heap.size w ((w.alloc (.cells #[.int .i64 o.kind, .string o.sp, .string o.sq, .int .i64 o.code, .string (bs o.loc), .int .i64 o.why] 37)).alloc (.cells (fndC f S N V cs cn cv) 42)) := ((Below.refl _ _).alloc (Nat.le_refl _) _).alloc (by simp) _
  have cC := pCodeH f ⟨m, [], [], []⟩ o S N V none cs cn cv 0 0 ⟨#[]⟩ ((w.alloc (.cells #[.int .i64 o.kind, .string o.sp, .string o.sq, .int .i64 o.code, .string (bs o.loc), .int .i64 o.why] 37)).alloc (.cells (fndC f S N V cs cn cv) 42)) hf
  simp only [hc] at cC
  unfold fndC at cC b2
  unfold fndV reqV outV at *
  simp only at cC
  rw [show bs [] = (⟨#[]⟩ : ByteArray) from rfl] at cC
  have CC := Lib.hid cC
  have B2 := Lib.hid b2
  clear cC b2 hc hf
  go_enter Tryz.func40, Tryz.ntmps40
  go_wp2_with fail
  (with_reducible refine (CC.out).mono ?_); rintro e w1 ⟨rfl, g1⟩
  go_wp2_with fail
  go_ret
  exact ⟨by simp, B2.out.trans (g1.mono B2.out.size)⟩
set_option maxRecDepth 100000 in
theorem pUnd (top rest want : List UInt8) (w : World) (h1 : top.length ≤ 100000) (h2 : rest.length ≤ 100000) (hT : Tab42 w) (hu : underT top rest = (want, 0)) :
    Calls Tryz.prog 42 #[.string (bs top), .string (bs rest), .string (bs want)] w fun e w' => e = .returned (.bool true) ∧ Below w.heap.size w w' := by
  have cU := pUnder top rest w h1 h2 hT
  rw [hu] at cU
  have CU := Lib.hid cU
  have e1 : ((bs want).toList == (bs want).toList) = true := by simp
  clear cU hu hT h1 h2
  go_enter Tryz.func42, Tryz.ntmps42
  go_wp2_with fail
  (with_reducible refine (CU.out).mono ?_); rintro e w1 ⟨rfl, g1⟩
  go_wp2_with fail
  go_ret
  exact ⟨by simp, g1⟩
def r0 : ReqP := ⟨[], [], [], []⟩
theorem ex_page : pageT 404 = ([52, 48, 52, 32, 78, 111, 116, 32, 70, 111, 117, 110, 100, 10], 0) := by decide +kernel
theorem ex_says : bodyT (fnd 3 [47, 115, 114, 118] [97, 47, 98]) r0 = ([102, 105, 108, 101, 32, 47, 115, 114, 118, 47, 97, 47, 98, 10], 0) := by decide +kernel
theorem ex_code : codeT [80, 85, 84] 1 0 (fnd 1 [] []) = (405, 0) := by decide +kernel
theorem ex_plain : plainT [97, 10, 37] = [97, 37, 48, 65, 37, 50, 53] := by decide +kernel
theorem ex_under : underT [47, 115, 114, 118] [97, 47, 47, 98] = ([47, 115, 114, 118, 47, 97, 47, 47, 98], 0) := by decide +kernel
theorem light0 (kind : Int) (text rest : List UInt8) (h1 : text.length ≤ 300) (h2 : rest.length ≤ 300) : LightF (fnd kind text rest) r0 :=
  ⟨by simp [fnd], by simp [fnd], by simp [fnd], h1, h2, by simp [r0], by simp [r0], by simp [r0], by simp [r0], fun x hx => by simp [fnd] at hx, fun x hx => by simp [fnd] at hx⟩
theorem says_fnd (kind : Int) (text rest want : List UInt8) (w : World) (h1 : text.length ≤ 300) (h2 : rest.length ≤ 300) (hb : bodyT (fnd kind text rest) r0 = (want, 0)) :
    Calls Tryz.prog 38 #[.agg #[.bool true, .slice none 0 0, .int .i64 kind, .string (bs text), .slice none 0 0, .slice none 0 0, .string (bs rest)], .agg #[.string ⟨#[]⟩, .string ⟨#[]⟩, .string ⟨#[]⟩, .string ⟨#[]⟩, .slice none 0 0, .string ⟨#[]⟩], .string (bs want)] w fun e w' => e = .returned (.bool true) ∧ Below w.heap.size w w' :=
  pSays (fnd kind text rest) r0 none none none none 0 0 0 0 0 ⟨#[]⟩ want w (light0 kind text rest h1 h2) Reads.none_ Reads.none_ (by rw [hb]) (by rw [hb])
set_option maxRecDepth 100000 in
set_option maxHeartbeats 2000000 in
theorem awake42 (w : World) (hT : Tab42 w) : Calls Tryz.prog 13 #[] w fun e w' => e = .returned (.bool true) ∧ Below w.heap.size w w' := by
  have cP := pPage 404 w hT
  rw [ex_page] at cP
  have cP : Calls Tryz.prog 37 #[.int .i64 404] w fun e w' => e = .returned (.tuple #[.string ⟨#[52, 48, 52, 32, 78, 111, 116, 32, 70, 111, 117, 110, 100, 10]⟩, .int .i64 0]) ∧ Below w.heap.size w w' := cP
  have CP := Lib.hid cP
  have cF1 : ∀ X, Calls Tryz.prog 39 #[.int .i64 3, .string ⟨#[47, 115, 114, 118]⟩, .string ⟨#[97, 47, 98]⟩] X fun e w' => e = .returned (.agg #[.bool true, .slice none 0 0, .int .i64 3, .string ⟨#[47, 115, 114, 118]⟩, .slice none 0 0, .slice none 0 0, .string ⟨#[97, 47, 98]⟩]) ∧ Below X.heap.size X w' := fun X => pFound 3 [47, 115, 114, 118] [97, 47, 98] X
  have cS1 : ∀ X, Calls Tryz.prog 38 #[.agg #[.bool true, .slice none 0 0, .int .i64 3, .string ⟨#[47, 115, 114, 118]⟩, .slice none 0 0, .slice none 0 0, .string ⟨#[97, 47, 98]⟩], .agg #[.string ⟨#[]⟩, .string ⟨#[]⟩, .string ⟨#[]⟩, .string ⟨#[]⟩, .slice none 0 0, .string ⟨#[]⟩], .string ⟨#[102, 105, 108, 101, 32, 47, 115, 114, 118, 47, 97, 47, 98, 10]⟩] X fun e w' => e = .returned (.bool true) ∧ Below X.heap.size X w' := fun X => says_fnd 3 [47, 115, 114, 118] [97, 47, 98] _ X (by decide) (by decide) ex_says
  have cF2 : ∀ X, Calls Tryz.prog 39 #[.int .i64 1, .string ⟨#[]⟩, .string ⟨#[]⟩] X fun e w' => e = .returned (.agg #[.bool true, .slice none 0 0, .int .i64 1, .string ⟨#[]⟩, .slice none 0 0, .slice none 0 0, .string ⟨#[]⟩]) ∧ Below X.heap.size X w' := fun X => pFound 1 [] [] X
  have cC : ∀ X, Calls Tryz.prog 40 #[.string ⟨#[80, 85, 84]⟩, .agg #[.int .i64 1, .string ⟨#[]⟩, .string ⟨#[]⟩, .int .i64 0, .string ⟨#[]⟩, .int .i64 0], .agg #[.bool true, .slice none 0 0, .int .i64 1, .string ⟨#[]⟩, .slice none 0 0, .slice none 0 0, .string ⟨#[]⟩], .int .i64 405] X fun e w' => e = .returned (.bool true) ∧ Below X.heap.size X w' := fun X =>
    pCodes (fnd 1 [] []) [80, 85, 84] ⟨1, ⟨#[]⟩, ⟨#[]⟩, 0, [], 0⟩ none none none 0 0 0 405 X (light0 1 [] [] (by decide) (by decide)).fok ex_code
  have cL : ∀ X, Calls Tryz.prog 41 #[.string ⟨#[97, 10, 37]⟩] X fun e w' => e = .returned (.string ⟨#[97, 37, 48, 65, 37, 50, 53]⟩) ∧ Below X.heap.size X w' := fun X => by
    have := pPlain [97, 10, 37] X (by decide)
    rw [ex_plain] at this
    exact this
  have cU : ∀ X, Tab42 X → Calls Tryz.prog 42 #[.string ⟨#[47, 115, 114, 118]⟩, .string ⟨#[97, 47, 47, 98]⟩, .string ⟨#[47, 115, 114, 118, 47, 97, 47, 47, 98]⟩] X fun e w' => e = .returned (.bool true) ∧ Below X.heap.size X w' := fun X hX => pUnd [47, 115, 114, 118] [97, 47, 47, 98] _ X (by decide) (by decide) hX ex_under
  have CF1 := Lib.hid cF1
  have CS1 := Lib.hid cS1
  have CF2 := Lib.hid cF2
  have CC := Lib.hid cC
  have CL := Lib.hid cL
  have CU := Lib.hid cU
  have HT := Lib.hid hT
  clear cP cF1 cS1 cF2 cC cL cU hT
  go_enter Tryz.func13, Tryz.ntmps13
  go_wp2_with fail
  (with_reducible refine (CP.out).mono ?_); rintro e w1 ⟨rfl, g1⟩
  have G1 := Lib.hid g1
  clear g1
  go_wp2_with fail
  (with_reducible refine (CF1.out _).mono ?_); rintro e w2 ⟨rfl, g2⟩
  have G2 := Lib.hid (G1.out.trans (g2.mono G1.out.size))
  clear g2
  go_wp2_with fail
  (with_reducible refine (CS1.out _).mono ?_); rintro e w3 ⟨rfl, g3⟩
  have G3 := Lib.hid (G2.out.trans (g3.mono G2.out.size))
  clear g3
  go_wp2_with fail
  (with_reducible refine (CF2.out _).mono ?_); rintro e w4 ⟨rfl, g4⟩
  have G4 := Lib.hid (G3.out.trans (g4.mono G3.out.size))
  clear g4
  go_wp2_with fail
  (with_reducible refine (CC.out _).mono ?_); rintro e w5 ⟨rfl, g5⟩
  have G5 := Lib.hid (G4.out.trans (g5.mono G4.out.size))
  clear g5
  go_wp2_with fail
  (with_reducible refine (CL.out _).mono ?_); rintro e w6 ⟨rfl, g6⟩
  have G6 := Lib.hid (G5.out.trans (g6.mono G5.out.size))
  clear g6
  have CU1 := Lib.hid (CU.out _ (HT.out.below G6.out))
  go_wp2_with fail
  (with_reducible refine (CU1.out).mono ?_); rintro e w7 ⟨rfl, g7⟩
  go_wp2_with fail
  go_ret
  exact ⟨rfl, G6.out.trans (g7.mono G6.out.size)⟩
end
end Go.Proofs.YthhlnpfcpgfcfaaGreatDoor
