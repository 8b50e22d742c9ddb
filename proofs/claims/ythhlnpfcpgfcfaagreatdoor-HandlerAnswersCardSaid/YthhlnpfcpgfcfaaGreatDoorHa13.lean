/-
  Handlers: Answer of the program.
-/
import Derived.Test.YthhlnpfcpgfcfaaGreatDoorHaN
import Derived.Test.YthhlnpfcpgfcfaaGreatDoorRs6
namespace Go.Proofs.YthhlnpfcpgfcfaaGreatDoor
open Go.RowKit

theorem results_cell_tmpH {fn : Func} {p t : Tmp} {ty : TypeId} {P : Program} (h : fn.results = #[.cell p ty, .tmp t]) (tmps : Array Value) (w : World) (g : Nat) (x v : Value)
    (hp : tmps.getD p undef = .pointer (some ⟨g, 0, none⟩)) (hl : (loadVar ty ⟨g, 0, none⟩).run P w = .ok x w) (ht : tmps.getD t undef = v) : (results fn tmps).run P w = .ok (.tuple #[x, v]) w := by
  have hp' : tmps[p]?.getD undef = .pointer (some ⟨g, 0, none⟩) := by simpa using hp
  have ht' : tmps[t]?.getD undef = v := by simpa using ht
  simp [results, h, hp', ht', asAddr, hl]
theorem ld5H {W : World} {g : Nat} {cs : Array Value} (h : Blk W g 24 cs) (hc : cs.size = 5) : (loadVar 24 ⟨g, 0, none⟩).run Tryz.prog W = .ok (.agg cs) W :=
  run_loadVar_row W g 24 24 cs (0, 0) _ h Tryz.underlying24 rfl (by rw [hc]; kernel_rfl)
theorem ldF {W : World} {g : Nat} {cs : Array Value} (h : Blk W g 57 cs) (hc : cs.size = 2) : (loadVar 57 ⟨g, 0, none⟩).run Tryz.prog W = .ok (.agg cs) W :=
  run_loadVar_row W g 57 57 cs (0, 0) _ h Tryz.underlying57 rfl (by rw [hc]; kernel_rfl)
theorem blk5H {w : World} {g : Nat} {t : TypeId} {a0 a1 a2 a3 a4 : Value} (h : Blk w g t #[a0, a1, a2, a3, a4]) (b0 b1 b2 b3 b4 : Value) :
    Blk (((((w.setCell ⟨g, 0, none⟩ b0).setCell ⟨g, 1, none⟩ b1).setCell ⟨g, 2, none⟩ b2).setCell ⟨g, 3, none⟩ b3).setCell ⟨g, 4, none⟩ b4) g t #[b0, b1, b2, b3, b4] := by
  have := ((((h.set_ 0 b0).set_ 1 b1).set_ 2 b2).set_ 3 b3).set_ 4 b4
  simpa using this
theorem bel5H {B g : Nat} {W X : World} (h : Below B W X) (hg : B ≤ g) (b0 b1 b2 b3 b4 : Value) : Below B W (((((X.setCell ⟨g, 0, none⟩ b0).setCell ⟨g, 1, none⟩ b1).setCell ⟨g, 2, none⟩ b2).setCell ⟨g, 3, none⟩ b3).setCell ⟨g, 4, none⟩ b4) :=
  ((((h.setCell (p := ⟨g, 0, none⟩) hg b0).setCell (p := ⟨g, 1, none⟩) hg b1).setCell (p := ⟨g, 2, none⟩) hg b2).setCell (p := ⟨g, 3, none⟩) hg b3).setCell (p := ⟨g, 4, none⟩) hg b4
theorem own5H {base e size n g : Nat} {X : World} {v : Value} {xs : List Value} (ho : X.ownsRow base e size v n xs) (hg : g < base) (b0 b1 b2 b3 b4 : Value) : (((((X.setCell ⟨g, 0, none⟩ b0).setCell ⟨g, 1, none⟩ b1).setCell ⟨g, 2, none⟩ b2).setCell ⟨g, 3, none⟩ b3).setCell ⟨g, 4, none⟩ b4).ownsRow base e size v n xs := by
  have step : ∀ {Y : World} (i : Nat) (u : Value), Y.ownsRow base e size v n xs → (Y.setCell ⟨g, i, none⟩ u).ownsRow base e size v n xs := fun i u h =>
    h.kept (Lib.grownBy_setB (World.grownBy.refl _ (some g)) i u) (.inr fun e => by have := (h.lt _ e).1; omega)
  exact step 4 b4 (step 3 b3 (step 2 b2 (step 1 b1 (step 0 b0 ho))))
theorem pPlainF (Y : World) : Calls Tryz.prog 47 #[] Y fun e w' => e = .returned (.agg #[.string ⟨#[67, 111, 110, 116, 101, 110, 116, 45, 84, 121, 112, 101]⟩, .string ⟨#[116, 101, 120, 116, 47, 112, 108, 97, 105, 110]⟩]) ∧ Below Y.heap.size Y w' := by
  have k0 := Lib.hid (Blk.new Y 57 #[.string ⟨#[67, 111, 110, 116, 101, 110, 116, 45, 84, 121, 112, 101]⟩, .string ⟨#[116, 101, 120, 116, 47, 112, 108, 97, 105, 110]⟩])
  go_enter Tryz.func47, Tryz.ntmps47
  go_wp2_with fail
  refine bodyPost_ret (results_cellH (p := 0) (ty := 57) (by kernel_rfl) _ _ Y.heap.size _ rfl (ldF k0.out rfl)) rfl ?_
  exact ⟨rfl, (Below.refl _ _).alloc (Nat.le_refl _) _⟩
/-- one field more in the response that is made -/
theorem app_out {W X : World} {g : Nat} {A : Option Addr} {n c : Nat} {FS : List Fld} {C : Int} {close hd : Bool} (hown : X.ownsRow W.heap.size 57 2 (.slice A n c) n (fldsC FS)) (hn : n = FS.length) (hn2 : n ≤ 100)
    (kX : Blk X g 24 #[.int .i64 C, .slice A n c, .string ⟨#[]⟩, .bool close, .bool hd]) (hg : W.heap.size ≤ g) (hB : Below W.heap.size W X) (y : Fld) (v1 : World) (hv : Below X.heap.size X v1) :
    ∃ A' c' w5, (Builtin.append_ #[22, 22] 22 #[.slice A n c, .slice (some ⟨v1.heap.size, 0, none⟩) 1 1]).run Tryz.prog (v1.alloc (.cells #[.string (bs y.1), .string (bs y.2)] 57)) = .ok (.slice A' (n + 1) c') w5 ∧
      v1.cell? ⟨g, 1, none⟩ = some (.slice A n c) ∧ (v1.alloc (.cells #[.string (bs y.1), .string (bs y.2)] 57)).cell? ⟨g, 1, none⟩ = some (.slice A n c) ∧ w5.cell? ⟨g, 1, none⟩ = some (.slice A n c) ∧ w5.frozen? ⟨g, 1, none⟩ = false ∧
      Hid (Blk (w5.setCell ⟨g, 1, none⟩ (.slice A' (n + 1) c')) g 24 #[.int .i64 C, .slice A' (n + 1) c', .string ⟨#[]⟩, .bool close, .bool hd] ∧ (w5.setCell ⟨g, 1, none⟩ (.slice A' (n + 1) c')).ownsRow W.heap.size 57 2 (.slice A' (n + 1) c') (n + 1) (fldsC (FS ++ [y])) ∧ Below W.heap.size W (w5.setCell ⟨g, 1, none⟩ (.slice A' (n + 1) c'))) := by
  subst hn
  have o1 := own_below hown hv
  have k1 := kX.below hv kX.lt
  have b1 := hB.trans (hv.mono hB.size)
  obtain ⟨v', w5, hrun, hown5, hbel, hgr⟩ := app_fldR (base := W.heap.size) (W := v1) (v := .slice A FS.length c) (xs := FS) o1 b1.size (by omega) y
  rw [List.length_append] at hown5
  simp only [List.length_cons, List.length_nil, Nat.zero_add] at hown5
  obtain ⟨A', c', rfl⟩ := own_slice hown5
  have hgne : some g ≠ (Value.slice A FS.length c).ownBlock := fun e => own_blk_ne (e := 57) o1 k1 (by decide) e.symm
  have k5 := k1.grown hgr hgne
  have k6 := k5.set_ 1 (.slice A' (FS.length + 1) c')
  have e6 : (#[.int .i64 C, .slice A FS.length c, .string ⟨#[]⟩, .bool close, .bool hd] : Array Value).setIfInBounds 1 (.slice A' (FS.length + 1) c') = #[.int .i64 C, .slice A' (FS.length + 1) c', .string ⟨#[]⟩, .bool close, .bool hd] := by simp
  rw [e6] at k6
  exact ⟨A', c', w5, hrun, k1.cell 1, (k1.alloc _).cell 1, k5.cell 1, k5.frozen 1, hide ⟨k6, hown5.kept (Lib.grownBy_setB (World.grownBy.refl w5 (some g)) 1 _) (.inr (own_blk_ne (e := 57) hown5 k5 (by decide))), (b1.trans hbel).setCell (p := ⟨g, 1, none⟩) hg _⟩⟩
theorem app0 {W X : World} {g : Nat} {C : Int} {close hd : Bool} 
    (kX : Blk X g 24 #[.int .i64 C, .slice none 0 0, .string ⟨#[]⟩, .bool close, .bool hd]) (hg : W.heap.size ≤ g) (hB : Below W.heap.size W X) (v1 : World) (hv : Below X.heap.size X v1) :
    ∃ A' c' w5, (Builtin.append_ #[22, 22] 22 #[.slice none 0 0, .slice (some ⟨v1.heap.size, 0, none⟩) 1 1]).run Tryz.prog (v1.alloc (.cells #[.string ⟨#[67, 111, 110, 116, 101, 110, 116, 45, 84, 121, 112, 101]⟩, .string ⟨#[116, 101, 120, 116, 47, 112, 108, 97, 105, 110]⟩] 57)) = .ok (.slice A' 1 c') w5 ∧
      v1.cell? ⟨g, 1, none⟩ = some (.slice none 0 0) ∧ (v1.alloc (.cells #[.string ⟨#[67, 111, 110, 116, 101, 110, 116, 45, 84, 121, 112, 101]⟩, .string ⟨#[116, 101, 120, 116, 47, 112, 108, 97, 105, 110]⟩] 57)).cell? ⟨g, 1, none⟩ = some (.slice none 0 0) ∧ w5.cell? ⟨g, 1, none⟩ = some (.slice none 0 0) ∧ w5.frozen? ⟨g, 1, none⟩ = false ∧
      Hid (Blk (w5.setCell ⟨g, 1, none⟩ (.slice A' 1 c')) g 24 #[.int .i64 C, .slice A' 1 c', .string ⟨#[]⟩, .bool close, .bool hd] ∧ (w5.setCell ⟨g, 1, none⟩ (.slice A' 1 c')).ownsRow W.heap.size 57 2 (.slice A' 1 c') 1 (fldsC [textF]) ∧ Below W.heap.size W (w5.setCell ⟨g, 1, none⟩ (.slice A' 1 c'))) :=
  app_out (n := 0) (FS := []) (A := none) (c := 0) (World.ownsRow_nil _ _ _ _) rfl (by decide : 0 ≤ 100) kX hg hB textF v1 hv
theorem app0L {W X : World} {g : Nat} (loc : List UInt8) {C : Int} {close hd : Bool} 
    (kX : Blk X g 24 #[.int .i64 C, .slice none 0 0, .string ⟨#[]⟩, .bool close, .bool hd]) (hg : W.heap.size ≤ g) (hB : Below W.heap.size W X) (v1 : World) (hv : Below X.heap.size X v1) :
    ∃ A' c' w5, (Builtin.append_ #[22, 22] 22 #[.slice none 0 0, .slice (some ⟨v1.heap.size, 0, none⟩) 1 1]).run Tryz.prog (v1.alloc (.cells #[.string ⟨#[76, 111, 99, 97, 116, 105, 111, 110]⟩, .string (bs loc)] 57)) = .ok (.slice A' 1 c') w5 ∧
      v1.cell? ⟨g, 1, none⟩ = some (.slice none 0 0) ∧ (v1.alloc (.cells #[.string ⟨#[76, 111, 99, 97, 116, 105, 111, 110]⟩, .string (bs loc)] 57)).cell? ⟨g, 1, none⟩ = some (.slice none 0 0) ∧ w5.cell? ⟨g, 1, none⟩ = some (.slice none 0 0) ∧ w5.frozen? ⟨g, 1, none⟩ = false ∧
      Hid (Blk (w5.setCell ⟨g, 1, none⟩ (.slice A' 1 c')) g 24 #[.int .i64 C, .slice A' 1 c', .string ⟨#[]⟩, .bool close, .bool hd] ∧ (w5.setCell ⟨g, 1, none⟩ (.slice A' 1 c')).ownsRow W.heap.size 57 2 (.slice A' 1 c') 1 (fldsC [(locN, loc)]) ∧ Below W.heap.size W (w5.setCell ⟨g, 1, none⟩ (.slice A' 1 c'))) :=
  app_out (n := 0) (FS := []) (A := none) (c := 0) (World.ownsRow_nil _ _ _ _) rfl (by decide : 0 ≤ 100) kX hg hB (locN, loc) v1 hv
theorem app1 {W X : World} {g : Nat} {A : Option Addr} {c : Nat} {loc : List UInt8} {C : Int} {close hd : Bool} (hown : X.ownsRow W.heap.size 57 2 (.slice A 1 c) 1 (fldsC [(locN, loc)]))
    (kX : Blk X g 24 #[.int .i64 C, .slice A 1 c, .string ⟨#[]⟩, .bool close, .bool hd]) (hg : W.heap.size ≤ g) (hB : Below W.heap.size W X) (v1 : World) (hv : Below X.heap.size X v1) :
    ∃ A' c' w5, (Builtin.append_ #[22, 22] 22 #[.slice A 1 c, .slice (some ⟨v1.heap.size, 0, none⟩) 1 1]).run Tryz.prog (v1.alloc (.cells #[.string ⟨#[67, 111, 110, 116, 101, 110, 116, 45, 84, 121, 112, 101]⟩, .string ⟨#[116, 101, 120, 116, 47, 112, 108, 97, 105, 110]⟩] 57)) = .ok (.slice A' 2 c') w5 ∧
      v1.cell? ⟨g, 1, none⟩ = some (.slice A 1 c) ∧ (v1.alloc (.cells #[.string ⟨#[67, 111, 110, 116, 101, 110, 116, 45, 84, 121, 112, 101]⟩, .string ⟨#[116, 101, 120, 116, 47, 112, 108, 97, 105, 110]⟩] 57)).cell? ⟨g, 1, none⟩ = some (.slice A 1 c) ∧ w5.cell? ⟨g, 1, none⟩ = some (.slice A 1 c) ∧ w5.frozen? ⟨g, 1, none⟩ = false ∧
      Hid (Blk (w5.setCell ⟨g, 1, none⟩ (.slice A' 2 c')) g 24 #[.int .i64 C, .slice A' 2 c', .string ⟨#[]⟩, .bool close, .bool hd] ∧ (w5.setCell ⟨g, 1, none⟩ (.slice A' 2 c')).ownsRow W.heap.size 57 2 (.slice A' 2 c') 2 (fldsC [(locN, loc), textF]) ∧ Below W.heap.size W (w5.setCell ⟨g, 1, none⟩ (.slice A' 2 c'))) :=
  app_out (n := 1) (FS := [(locN, loc)]) (A := A) (c := c) hown rfl (by decide : 1 ≤ 100) kX hg hB textF v1 hv
theorem fin5 {w w1 Y : World} {Z n c : Nat} {A : Option Addr} {FS : List Fld} {a0 a1 a2 a3 a4 : Value} (ho : Y.ownsRow w1.heap.size 57 2 (.slice A n c) n (fldsC FS)) (hZ : Z < w1.heap.size) (hwZ : w.heap.size ≤ Z) (hB : Below w.heap.size w Y) (kZ : Blk Y Z 24 #[a0, a1, a2, a3, a4]) (b0 b1 b2 b3 b4 : Value) :
    Blk (((((Y.setCell ⟨Z, 0, none⟩ b0).setCell ⟨Z, 1, none⟩ b1).setCell ⟨Z, 2, none⟩ b2).setCell ⟨Z, 3, none⟩ b3).setCell ⟨Z, 4, none⟩ b4) Z 24 #[b0, b1, b2, b3, b4] ∧
    Reads (((((Y.setCell ⟨Z, 0, none⟩ b0).setCell ⟨Z, 1, none⟩ b1).setCell ⟨Z, 2, none⟩ b2).setCell ⟨Z, 3, none⟩ b3).setCell ⟨Z, 4, none⟩ b4) (((((Y.setCell ⟨Z, 0, none⟩ b0).setCell ⟨Z, 1, none⟩ b1).setCell ⟨Z, 2, none⟩ b2).setCell ⟨Z, 3, none⟩ b3).setCell ⟨Z, 4, none⟩ b4).heap.size 2 A n (fldsC FS) ∧
    Below w.heap.size w (((((Y.setCell ⟨Z, 0, none⟩ b0).setCell ⟨Z, 1, none⟩ b1).setCell ⟨Z, 2, none⟩ b2).setCell ⟨Z, 3, none⟩ b3).setCell ⟨Z, 4, none⟩ b4) :=
  ⟨blk5H kZ _ _ _ _ _, Reads.of_own (own5H ho hZ b0 b1 b2 b3 b4), bel5H hB hwZ _ _ _ _ _⟩
theorem set2 {Y : World} {g : Nat} {a0 a1 a2 a3 a4 : Value} (k : Blk Y g 24 #[a0, a1, a2, a3, a4]) (b : Value) : Blk (Y.setCell ⟨g, 2, none⟩ b) g 24 #[a0, a1, b, a3, a4] := by
  have := k.set_ 2 b
  simpa using this
theorem own2 {Y : World} {base g n c : Nat} {A : Option Addr} {xs cs} (ho : Y.ownsRow base 57 2 (.slice A n c) n xs) (k : Blk Y g 24 cs) (b : Value) : (Y.setCell ⟨g, 2, none⟩ b).ownsRow base 57 2 (.slice A n c) n xs :=
  ho.kept (Lib.grownBy_setB (World.grownBy.refl Y (some g)) 2 b) (.inr (own_blk_ne (e := 57) ho k (by decide)))
theorem pg (C : Int) (pt : List UInt8) (h1 : (pageT C).1 = pt) (h2 : (pageT C).2 = 0) (X : World) (hX : Tab42 X) : Calls Tryz.prog 37 #[.int .i64 C] X fun e w' => e = .returned (.tuple #[.string (bs pt), .int .i64 0]) ∧ Below X.heap.size X w' := by
  have := pPage C X hX
  rw [h1, h2] at this
  exact this
theorem bd (f : FoundP) (r : ReqP) (S N V FA : Option Addr) (cs cn cv fn fc : Nat) (host : ByteArray) (b : List UInt8) (hb : (bodyT f r).1 = b) (w : World) (hl : LightF f r)
    (hN : Reads w w.heap.size 1 N f.names.length (strs f.names)) (hV : Reads w w.heap.size 1 V f.vals.length (strs f.vals)) : Calls Tryz.prog 48 #[.agg #[.bool f.ok, .slice S f.segs.length cs, .int .i64 f.kind, .string (bs f.text), .slice N f.names.length cn, .slice V f.vals.length cv, .string (bs f.rest)], .agg #[.string (bs r.method), .string (bs r.path), .string (bs r.query), .string host, .slice FA fn fc, .string (bs r.body)]] w fun e w' => e = .returned (.tuple #[.string (bs b), .int .i64 ((bodyT f r).2 : Nat)]) ∧ Below w.heap.size w w' := by
  have := pBody f r S N V FA cs cn cv fn fc host w hl hN hV
  rw [hb] at this
  exact this
theorem my (loc : List UInt8) (M : Nat) (hM : mayR (locN, loc) = M) (X : World) (hlo : loc.length ≤ 100000) (hX : Spaces X) : Calls Tryz.prog 46 #[.agg #[.string ⟨#[76, 111, 99, 97, 116, 105, 111, 110]⟩, .string (bs loc)]] X fun e w' => e = .returned (.int .i64 (M : Nat)) ∧ Below X.heap.size X w' := by
  have := pMayR (locN, loc) X (by simp [locN]) (by simp only; omega) hX
  rw [hM] at this
  exact this
def AnsPost (r : ReqP) (o : OutP) (f : FoundP) (close : Bool) (w : World) (e : Ending) (w' : World) : Prop :=
  ∃ A c, e = .returned (.tuple #[rspV (answerT r o.kind o.code o.loc f close).1 A (answerT r o.kind o.code o.loc f close).1.flds.length c, .int .i64 ((answerT r o.kind o.code o.loc f close).2 : Nat)]) ∧ Reads w' w'.heap.size 2 A (answerT r o.kind o.code o.loc f close).1.flds.length (fldsC (answerT r o.kind o.code o.loc f close).1.flds) ∧ Below w.heap.size w w'
theorem ans_err {r : ReqP} {o : OutP} {f : FoundP} {close : Bool} {E : Nat} (h : answerT r o.kind o.code o.loc f close = (noR, E)) (w : World) : AnsPost r o f close w = fun e w' => ∃ A c, e = .returned (.tuple #[.agg #[.int .i64 0, .slice A 0 c, .string ⟨#[]⟩, .bool false, .bool false], .int .i64 (E : Nat)]) ∧ Reads w' w'.heap.size 2 A 0 (fldsC []) ∧ Below w.heap.size w w' := by
  funext e w'; unfold AnsPost; rw [h]; rfl
theorem ans_ok {r : ReqP} {o : OutP} {f : FoundP} {close : Bool} {C : Int} {fl : List Fld} {b : List UInt8} {hd : Bool} (h : answerT r o.kind o.code o.loc f close = (⟨C, fl, b, close, hd⟩, 0)) (w : World) : AnsPost r o f close w = fun e w' => ∃ A c, e = .returned (.tuple #[.agg #[.int .i64 C, .slice A fl.length c, .string (bs b), .bool close, .bool hd], .int .i64 0]) ∧ Reads w' w'.heap.size 2 A fl.length (fldsC fl) ∧ Below w.heap.size w w' := by
  funext e w'; unfold AnsPost; rw [h]; rfl
theorem page_known : ∀ c ∈ ([403, 404, 405, 410, 500] : List Int), (pageT c).2 = 0 := by decide +kernel
theorem code_fin {m : List UInt8} {C : Int} {f : FoundP} (h : (if knownM m = false then ((405 : Int), 0) else (200, 0)) = (C, 0)) (hc0 : checkF f = 0) (ho : ¬ f.ok = false) : (C = 200 ∧ checkF f = 0 ∧ f.ok = true) ∨ (C ≠ 200 ∧ (pageT C).2 = 0) := by
  by_cases hkm : knownM m = false
  · rw [if_pos hkm] at h
    obtain ⟨rfl, _⟩ := Prod.mk.inj h; exact .inr ⟨by decide, page_known _ (by simp)⟩
  · rw [if_neg hkm] at h
    obtain ⟨rfl, _⟩ := Prod.mk.inj h; exact .inl ⟨rfl, hc0, by cases hf : f.ok with | true => rfl | false => exact absurd hf ho⟩
theorem code_cases {m : List UInt8} {k c C : Int} {f : FoundP} (h : codeT m k c f = (C, 0)) (hk : k ≠ 2) : (C = 200 ∧ checkF f = 0 ∧ f.ok = true) ∨ (C ≠ 200 ∧ (pageT C).2 = 0) := by
  unfold codeT at h
  split at h
  · cases h
  · split at h
    · cases h
    · split at h
      · rename_i hc
        exact absurd (Prod.mk.inj h).2 hc
      · rename_i hc
        have hc0 : checkF f = 0 := by omega
        clear hc
        split at h
        · obtain ⟨rfl, _⟩ := Prod.mk.inj h; exact .inr ⟨by decide, page_known _ (by simp)⟩
        · split at h
          · obtain ⟨rfl, _⟩ := Prod.mk.inj h; exact .inr ⟨by decide, page_known _ (by simp)⟩
          · split at h
            · obtain ⟨rfl, _⟩ := Prod.mk.inj h; exact .inr ⟨by decide, page_known _ (by simp)⟩
            · split at h
              · obtain ⟨rfl, _⟩ := Prod.mk.inj h; exact .inr ⟨by decide, page_known _ (by simp)⟩
              · rename_i ho
                exact code_fin h hc0 ho
theorem code_moved {m : List UInt8} {c C : Int} {f : FoundP} (h : codeT m 2 c f = (C, 0)) : C = c ∧ movedC c = true := by
  unfold codeT at h
  split at h
  · cases h
  · split at h
    · cases h
    · rename_i hm
      split at h
      · rename_i hc
        exact absurd (Prod.mk.inj h).2 hc
      · split at h
        · exact ⟨(Prod.mk.inj h).1.symm, by cases hf : movedC c with | true => rfl | false => exact absurd ⟨rfl, hf⟩ hm⟩
        · rename_i h2; exact absurd rfl h2
theorem moved_not {c : Int} (h : movedC c = true) : c ≠ 200 := by
  rintro rfl
  revert h; decide
set_option maxRecDepth 100000 in
set_option maxHeartbeats 16000000 in
theorem pAnswer (f : FoundP) (r : ReqP) (o : OutP) (S N V FA : Option Addr) (cs cn cv fn fc : Nat) (host : ByteArray) (close : Bool) (w : World) (hl : LightF f r) (hlo : o.loc.length ≤ 100000)
    (hN : Reads w w.heap.size 1 N f.names.length (strs f.names)) (hV : Reads w w.heap.size 1 V f.vals.length (strs f.vals)) (hT : Tab42 w) (hSp : Spaces w) :
    Calls Tryz.prog 19 #[reqV r host FA fn fc, outV o, fndV f S N V cs cn cv, .bool close] w (AnsPost r o f close w) := by
  have b4 : Below w.heap.size w ((((w.alloc (.cells #[.string (bs r.method), .string (bs r.path), .string (bs r.query), .string host, .slice FA fn fc, .string (bs r.body)] 33)).alloc (.cells #[.int .i64 o.kind, .string o.sp, .string o.sq, .int .i64 o.code, .string (bs o.loc), .int .i64 o.why] 37)).alloc (.cells #[.bool f.ok, .slice S f.segs.length cs, .int .i64 f.kind, .string (bs f.text), .slice N f.names.length cn, .slice V f.vals.length cv, .string (bs f.rest)] 42)).alloc (.cells #[.int .i64 0, .slice none 0 0, .string ⟨#[]⟩, .bool false, .bool false] 24)) := ((((Below.refl _ _).alloc (Nat.le_refl _) _).alloc (by simp) _).alloc (by simp; omega) _).alloc (by simp; omega) _
  have kR := (((Blk.new w 33 #[.string (bs r.method), .string (bs r.path), .string (bs r.query), .string host, .slice FA fn fc, .string (bs r.body)]).alloc (.cells #[.int .i64 o.kind, .string o.sp, .string o.sq, .int .i64 o.code, .string (bs o.loc), .int .i64 o.why] 37)).alloc (.cells #[.bool f.ok, .slice S f.segs.length cs, .int .i64 f.kind, .string (bs f.text), .slice N f.names.length cn, .slice V f.vals.length cv, .string (bs f.rest)] 42)).alloc (.cells #[.int .i64 0, .slice none 0 0, .string ⟨#[]⟩, .bool false, .bool false] 24)
  have kO := ((Blk.new (w.alloc (.cells #[.string (bs r.method), .string (bs r.path), .string (bs r.query), .string host, .slice FA fn fc, .string (bs r.body)] 33)) 37 #[.int .i64 o.kind, .string o.sp, .string o.sq, .int .i64 o.code, .string (bs o.loc), .int .i64 o.why]).alloc (.cells #[.bool f.ok, .slice S f.segs.length cs, .int .i64 f.kind, .string (bs f.text), .slice N f.names.length cn, .slice V f.vals.length cv, .string (bs f.rest)] 42)).alloc (.cells #[.int .i64 0, .slice none 0 0, .string ⟨#[]⟩, .bool false, .bool false] 24)
  have kF := (Blk.new ((w.alloc (.cells #[.string (bs r.method), .string (bs r.path), .string (bs r.query), .string host, .slice FA fn fc, .string (bs r.body)] 33)).alloc (.cells #[.int .i64 o.kind, .string o.sp, .string o.sq, .int .i64 o.code, .string (bs o.loc), .int .i64 o.why] 37)) 42 #[.bool f.ok, .slice S f.segs.length cs, .int .i64 f.kind, .string (bs f.text), .slice N f.names.length cn, .slice V f.vals.length cv, .string (bs f.rest)]).alloc (.cells #[.int .i64 0, .slice none 0 0, .string ⟨#[]⟩, .bool false, .bool false] 24)
  have kZ := Blk.new (((w.alloc (.cells #[.string (bs r.method), .string (bs r.path), .string (bs r.query), .string host, .slice FA fn fc, .string (bs r.body)] 33)).alloc (.cells #[.int .i64 o.kind, .string o.sp, .string o.sq, .int .i64 o.code, .string (bs o.loc), .int .i64 o.why] 37)).alloc (.cells #[.bool f.ok, .slice S f.segs.length cs, .int .i64 f.kind, .string (bs f.text), .slice N f.names.length cn, .slice V f.vals.length cv, .string (bs f.rest)] 42)) 24 #[.int .i64 0, .slice none 0 0, .string ⟨#[]⟩, .bool false, .bool false]
  rw [show (w.alloc (.cells #[.string (bs r.method), .string (bs r.path), .string (bs r.query), .string host, .slice FA fn fc, .string (bs r.body)] 33)).heap.size = w.heap.size + 1 by simp] at kO
  rw [show ((w.alloc (.cells #[.string (bs r.method), .string (bs r.path), .string (bs r.query), .string host, .slice FA fn fc, .string (bs r.body)] 33)).alloc (.cells #[.int .i64 o.kind, .string o.sp, .string o.sq, .int .i64 o.code, .string (bs o.loc), .int .i64 o.why] 37)).heap.size = w.heap.size + 1 + 1 by simp] at kF
  rw [show (((w.alloc (.cells #[.string (bs r.method), .string (bs r.path), .string (bs r.query), .string host, .slice FA fn fc, .string (bs r.body)] 33)).alloc (.cells #[.int .i64 o.kind, .string o.sp, .string o.sq, .int .i64 o.code, .string (bs o.loc), .int .i64 o.why] 37)).alloc (.cells #[.bool f.ok, .slice S f.segs.length cs, .int .i64 f.kind, .string (bs f.text), .slice N f.names.length cn, .slice V f.vals.length cv, .string (bs f.rest)] 42)).heap.size = w.heap.size + 1 + 1 + 1 by simp] at kZ
  have cC := pCodeH f r o S N V FA cs cn cv fn fc host ((((w.alloc (.cells #[.string (bs r.method), .string (bs r.path), .string (bs r.query), .string host, .slice FA fn fc, .string (bs r.body)] 33)).alloc (.cells #[.int .i64 o.kind, .string o.sp, .string o.sq, .int .i64 o.code, .string (bs o.loc), .int .i64 o.why] 37)).alloc (.cells #[.bool f.ok, .slice S f.segs.length cs, .int .i64 f.kind, .string (bs f.text), .slice N f.names.length cn, .slice V f.vals.length cv, .string (bs f.rest)] 42)).alloc (.cells #[.int .i64 0, .slice none 0 0, .string ⟨#[]⟩, .bool false, .bool false] 24)) hl.fok
  obtain ⟨W, hW⟩ : ∃ W, (((w.alloc (.cells #[.string (bs r.method), .string (bs r.path), .string (bs r.query), .string host, .slice FA fn fc, .string (bs r.body)] 33)).alloc (.cells #[.int .i64 o.kind, .string o.sp, .string o.sq, .int .i64 o.code, .string (bs o.loc), .int .i64 o.why] 37)).alloc (.cells #[.bool f.ok, .slice S f.segs.length cs, .int .i64 f.kind, .string (bs f.text), .slice N f.names.length cn, .slice V f.vals.length cv, .string (bs f.rest)] 42)).alloc (.cells #[.int .i64 0, .slice none 0 0, .string ⟨#[]⟩, .bool false, .bool false] 24) = W := ⟨_, rfl⟩
  have hs : W.heap.size = w.heap.size + 1 + 1 + 1 + 1 := by rw [← hW]; simp
  rw [hW] at b4 kR kO kF kZ
  have kc : ∀ X, Below W.heap.size W X → Blk X w.heap.size 33 #[.string (bs r.method), .string (bs r.path), .string (bs r.query), .string host, .slice FA fn fc, .string (bs r.body)] ∧ Blk X (w.heap.size + 1) 37 #[.int .i64 o.kind, .string o.sp, .string o.sq, .int .i64 o.code, .string (bs o.loc), .int .i64 o.why] ∧ Blk X (w.heap.size + 1 + 1) 42 #[.bool f.ok, .slice S f.segs.length cs, .int .i64 f.kind, .string (bs f.text), .slice N f.names.length cn, .slice V f.vals.length cv, .string (bs f.rest)] ∧ Blk X (w.heap.size + 1 + 1 + 1) 24 #[.int .i64 0, .slice none 0 0, .string ⟨#[]⟩, .bool false, .bool false] ∧ Below w.heap.size w X := fun X hX => ⟨kR.below hX kR.lt, kO.below hX kO.lt, kF.below hX kF.lt, kZ.below hX kZ.lt, b4.trans (hX.mono b4.size)⟩
  have kt : ∀ X, Below w.heap.size w X → Tab42 X ∧ Spaces X ∧ Reads X X.heap.size 1 N f.names.length (strs f.names) ∧ Reads X X.heap.size 1 V f.vals.length (strs f.vals) := fun X hX => ⟨hT.below hX, hSp.below hX, (hN.below hX).more hX.size, (hV.below hX).more hX.size⟩
  unfold reqV outV fndV at *
  have hcT : ∃ C E, codeT r.method o.kind o.code f = (C, E) := ⟨_, _, rfl⟩
  obtain ⟨C, E, hce⟩ := hcT
  rw [hce] at cC
  simp only at cC
  have CC := Lib.hid cC
  have KC := Lib.hid kc
  have KT := Lib.hid kt
  have HW := Lib.hid (And.intro hW hs)
  have HL := Lib.hid hl
  have HP := Lib.hid pPlainF
  have HCE := Lib.hid hce
  clear cC kc kt hW hs hl hN hV hT hSp b4 kR kO kF kZ hce
  by_cases hE : E = 0
  · subst hE
    obtain ⟨hd, hhd⟩ : ∃ hd, ((bs r.method).toList == [72, 69, 65, 68]) = hd := ⟨_, rfl⟩
    have hhd2 : (r.method == [72, 69, 65, 68]) = hd := by rw [← hhd, bs_toList]
    have HH := Lib.hid hhd2
    clear hhd2
    by_cases hk : o.kind = 2
    · skip
      have hkt : (o.kind == 2) = true := by rw [beq_iff_eq]; exact hk
      have hkf : (o.kind != 2) = false := by rw [bne_eq_false_iff_eq]; exact hk
      have hcm := code_moved (by have := HCE.out; rwa [hk] at this)
      have hCf : (C == 200) = false := by rw [beq_eq_false_iff_ne, hcm.1]; exact moved_not hcm.2
      have hCo := hcm.1
      clear hcm
      obtain ⟨M, hM⟩ : ∃ M, mayR (locN, o.loc) = M := ⟨_, rfl⟩
      have MR := Lib.hid (fun X (hX : Spaces X) => my o.loc M hM X hlo hX)
      by_cases hM0 : M = 0
      · have hA : answerT r o.kind o.code o.loc f close = (⟨C, [(locN, o.loc), textF], [], close, hd⟩, 0) := by
          unfold answerT; rw [HCE.out]; simp only [HH.out]; rw [if_neg (by simp), if_pos hk, hM, if_neg (by simp [hM0]), hCo]
        rw [ans_ok hA]
        rw [hM0] at MR
        clear hA hM hM0 hk hCo
        go_enter Tryz.func19, Tryz.ntmps19
        go_wp2_with fail
        (with_reducible refine (CC.out).mono ?_); rintro e w1 ⟨rfl, g1⟩
        rw [HW.out.1] at g1
        have GW := Lib.hid g1
        have G2 := Lib.hid (g1.alloc g1.size (.cells #[.int .i64 C, .slice none 0 0, .string ⟨#[]⟩, .bool close, .bool hd] 24))
        have K2 := Lib.hid (Blk.new w1 24 #[.int .i64 C, .slice none 0 0, .string ⟨#[]⟩, .bool close, .bool hd])
        have G3 := Lib.hid (G2.out.alloc G2.out.size (.cells #[.string ⟨#[76, 111, 99, 97, 116, 105, 111, 110]⟩, .string (bs o.loc)] 57))
        have K3 := Lib.hid (K2.out.alloc (.cells #[.string ⟨#[76, 111, 99, 97, 116, 105, 111, 110]⟩, .string (bs o.loc)] 57))
        have T3 : Hid (Blk ((w1.alloc (.cells #[.int .i64 C, .slice none 0 0, .string ⟨#[]⟩, .bool close, .bool hd] 24)).alloc (.cells #[.string ⟨#[76, 111, 99, 97, 116, 105, 111, 110]⟩, .string (bs o.loc)] 57)) (w1.heap.size + 1) 57 #[.string ⟨#[76, 111, 99, 97, 116, 105, 111, 110]⟩, .string (bs o.loc)]) := by
          have := Blk.new (w1.alloc (.cells #[.int .i64 C, .slice none 0 0, .string ⟨#[]⟩, .bool close, .bool hd] 24)) 57 #[.string ⟨#[76, 111, 99, 97, 116, 105, 111, 110]⟩, .string (bs o.loc)]
          rw [show (w1.alloc (.cells #[.int .i64 C, .slice none 0 0, .string ⟨#[]⟩, .bool close, .bool hd] 24)).heap.size = w1.heap.size + 1 by simp] at this
          exact hide this
        have B3 := Lib.hid (((Below.refl w1.heap.size w1).alloc (Nat.le_refl _) (.cells #[.int .i64 C, .slice none 0 0, .string ⟨#[]⟩, .bool close, .bool hd] 24)).alloc (by simp) (.cells #[.string ⟨#[76, 111, 99, 97, 116, 105, 111, 110]⟩, .string (bs o.loc)] 57))
        have r0 : w1.cell? ⟨w.heap.size, 0, none⟩ = some (.string (bs r.method)) := (KC.out _ GW.out).1.cell 0
        have o0 : (w1.alloc (.cells #[.int .i64 C, .slice none 0 0, .string ⟨#[]⟩, .bool close, .bool hd] 24)).cell? ⟨w.heap.size + 1, 0, none⟩ = some (.int .i64 o.kind) := (KC.out _ G2.out).2.1.cell 0
        have o4 : (w1.alloc (.cells #[.int .i64 C, .slice none 0 0, .string ⟨#[]⟩, .bool close, .bool hd] 24)).cell? ⟨w.heap.size + 1, 4, none⟩ = some (.string (bs o.loc)) := (KC.out _ G2.out).2.1.cell 4
        clear g1 CC
        go_wp2_with fail
        (with_reducible refine (MR.out _ (KT.out _ (KC.out _ G3.out).2.2.2.2).2.1).mono ?_); rintro e w2 ⟨rfl, g2⟩
        have GX2 := Lib.hid (G3.out.trans (g2.mono G3.out.size))
        have K4 := Lib.hid (K3.out.below g2 K3.out.lt)
        have T4 := Lib.hid (T3.out.below g2 T3.out.lt)
        have B4 := Lib.hid (B3.out.trans (g2.mono B3.out.size))
        have AL := Lib.hid (app0L (W := w1) (X := w2) (loc := o.loc) (C := C) (close := close) (hd := hd) K4.out (Nat.le_refl _) B4.out w2 (Below.refl _ _))
        obtain ⟨A1, c1, w4, hrun1, p1, p2, p3, p4, HY⟩ := AL.out
        have t0 : w2.cell? ⟨w1.heap.size + 1, 0, none⟩ = some (.string ⟨#[76, 111, 99, 97, 116, 105, 111, 110]⟩) := T4.out.cell 0
        have t1 : w2.cell? ⟨w1.heap.size + 1, 1, none⟩ = some (.string (bs o.loc)) := T4.out.cell 1
        have GY := Lib.hid (GW.out.trans (HY.out.2.2.mono GW.out.size))
        have HR1 := Lib.hid hrun1
        have y1 : (w4.setCell ⟨w1.heap.size, 1, none⟩ (.slice A1 1 c1)).cell? ⟨w1.heap.size, 1, none⟩ = some (.slice A1 1 c1) := HY.out.1.cell 1
        clear g2 hrun1
        go_wp2_with (at_builtin; refine wpList_append_run HR1.out rfl _ _ rfl rfl rfl rfl ?_)
        have AO := Lib.hid (fun v1 hv => app1 (W := w1) (X := (w4.setCell ⟨w1.heap.size, 1, none⟩ (.slice A1 1 c1)).drew) (loc := o.loc) (C := C) (close := close) (hd := hd) HY.out.2.1.drew HY.out.1.drew (Nat.le_refl _) HY.out.2.2.drew v1 hv)
        go_region_law (first
          | (go_simp; go_at_call 47; (with_reducible refine (HP.out _).mono ?_); rintro e v1 ⟨rfl, hv1⟩
             obtain ⟨A2, c2, w5, hrun, q1, q2, q3, q4, HX⟩ := AO.out v1 hv1)
          | (refine step_append_run hrun (by rfl) _ _ (by rfl) (by rfl) (by rfl) (by rfl) ?_))
        all_goals (
          have GX := Lib.hid (GW.out.trans (HX.out.2.2.mono GW.out.size))
          have o1 : (w5.setCell ⟨w1.heap.size, 1, none⟩ (.slice A2 2 c2)).cell? ⟨w.heap.size + 1, 0, none⟩ = some (.int .i64 o.kind) := (KC.out _ GX.out).2.1.cell 0
          clear q1 q2 q3 q4 hrun hv1
          have x0 : (w5.setCell ⟨w1.heap.size, 1, none⟩ (.slice A2 2 c2)).cell? ⟨w1.heap.size, 0, none⟩ = some (.int .i64 C) := HX.out.1.cell 0
          have x1 : (w5.setCell ⟨w1.heap.size, 1, none⟩ (.slice A2 2 c2)).cell? ⟨w1.heap.size, 1, none⟩ = some (.slice A2 2 c2) := HX.out.1.cell 1
          have x2 : (w5.setCell ⟨w1.heap.size, 1, none⟩ (.slice A2 2 c2)).cell? ⟨w1.heap.size, 2, none⟩ = some (.string ⟨#[]⟩) := HX.out.1.cell 2
          have x3 : (w5.setCell ⟨w1.heap.size, 1, none⟩ (.slice A2 2 c2)).cell? ⟨w1.heap.size, 3, none⟩ = some (.bool close) := HX.out.1.cell 3
          have x4 : (w5.setCell ⟨w1.heap.size, 1, none⟩ (.slice A2 2 c2)).cell? ⟨w1.heap.size, 4, none⟩ = some (.bool hd) := HX.out.1.cell 4
          have z0 : (w5.setCell ⟨w1.heap.size, 1, none⟩ (.slice A2 2 c2)).cell? ⟨w.heap.size + 1 + 1 + 1, 0, none⟩ = some (.int .i64 0) := (KC.out _ GX.out).2.2.2.1.cell 0
          have zf0 : (w5.setCell ⟨w1.heap.size, 1, none⟩ (.slice A2 2 c2)).frozen? ⟨w.heap.size + 1 + 1 + 1, 0, none⟩ = false := (KC.out _ GX.out).2.2.2.1.frozen 0
          have z1 : (w5.setCell ⟨w1.heap.size, 1, none⟩ (.slice A2 2 c2)).cell? ⟨w.heap.size + 1 + 1 + 1, 1, none⟩ = some (.slice none 0 0) := (KC.out _ GX.out).2.2.2.1.cell 1
          have zf1 : (w5.setCell ⟨w1.heap.size, 1, none⟩ (.slice A2 2 c2)).frozen? ⟨w.heap.size + 1 + 1 + 1, 1, none⟩ = false := (KC.out _ GX.out).2.2.2.1.frozen 1
          have z2 : (w5.setCell ⟨w1.heap.size, 1, none⟩ (.slice A2 2 c2)).cell? ⟨w.heap.size + 1 + 1 + 1, 2, none⟩ = some (.string ⟨#[]⟩) := (KC.out _ GX.out).2.2.2.1.cell 2
          have zf2 : (w5.setCell ⟨w1.heap.size, 1, none⟩ (.slice A2 2 c2)).frozen? ⟨w.heap.size + 1 + 1 + 1, 2, none⟩ = false := (KC.out _ GX.out).2.2.2.1.frozen 2
          have z3 : (w5.setCell ⟨w1.heap.size, 1, none⟩ (.slice A2 2 c2)).cell? ⟨w.heap.size + 1 + 1 + 1, 3, none⟩ = some (.bool false) := (KC.out _ GX.out).2.2.2.1.cell 3
          have zf3 : (w5.setCell ⟨w1.heap.size, 1, none⟩ (.slice A2 2 c2)).frozen? ⟨w.heap.size + 1 + 1 + 1, 3, none⟩ = false := (KC.out _ GX.out).2.2.2.1.frozen 3
          have z4 : (w5.setCell ⟨w1.heap.size, 1, none⟩ (.slice A2 2 c2)).cell? ⟨w.heap.size + 1 + 1 + 1, 4, none⟩ = some (.bool false) := (KC.out _ GX.out).2.2.2.1.cell 4
          have zf4 : (w5.setCell ⟨w1.heap.size, 1, none⟩ (.slice A2 2 c2)).frozen? ⟨w.heap.size + 1 + 1 + 1, 4, none⟩ = false := (KC.out _ GX.out).2.2.2.1.frozen 4
          have FIN := Lib.hid (fin5 HX.out.2.1 (by have := HW.out.2; have := GW.out.size; omega : w.heap.size + 1 + 1 + 1 < w1.heap.size) (by omega : w.heap.size ≤ w.heap.size + 1 + 1 + 1) (KC.out _ GX.out).2.2.2.2 (KC.out _ GX.out).2.2.2.1 (.int .i64 C) (.slice A2 2 c2) (.string ⟨#[]⟩) (.bool close) (.bool hd))
          go_wp2_with fail
          refine bodyPost_ret (results_cell_tmpH (p := 8) (t := 9) (ty := 24) (by kernel_rfl) _ _ (w.heap.size + 1 + 1 + 1) _ _ rfl (ld5H FIN.out.1 rfl) rfl) rfl ?_
          exact ⟨A2, c2, rfl, FIN.out.2.1, FIN.out.2.2⟩)
      · have hA : answerT r o.kind o.code o.loc f close = (noR, M) := by
          unfold answerT; rw [HCE.out]; rw [if_neg (by simp), if_pos hk, hM, if_pos hM0]
        rw [ans_err hA]
        have hne : ((M : Int) != 0) = true := by rw [bne_iff_ne]; omega
        clear hA hM hM0 hk hCo
        go_enter Tryz.func19, Tryz.ntmps19
        go_wp2_with fail
        (with_reducible refine (CC.out).mono ?_); rintro e w1 ⟨rfl, g1⟩
        rw [HW.out.1] at g1
        have GW := Lib.hid g1
        have G2 := Lib.hid (g1.alloc g1.size (.cells #[.int .i64 C, .slice none 0 0, .string ⟨#[]⟩, .bool close, .bool hd] 24))
        have K2 := Lib.hid (Blk.new w1 24 #[.int .i64 C, .slice none 0 0, .string ⟨#[]⟩, .bool close, .bool hd])
        have G3 := Lib.hid (G2.out.alloc G2.out.size (.cells #[.string ⟨#[76, 111, 99, 97, 116, 105, 111, 110]⟩, .string (bs o.loc)] 57))
        have K3 := Lib.hid (K2.out.alloc (.cells #[.string ⟨#[76, 111, 99, 97, 116, 105, 111, 110]⟩, .string (bs o.loc)] 57))
        have T3 : Hid (Blk ((w1.alloc (.cells #[.int .i64 C, .slice none 0 0, .string ⟨#[]⟩, .bool close, .bool hd] 24)).alloc (.cells #[.string ⟨#[76, 111, 99, 97, 116, 105, 111, 110]⟩, .string (bs o.loc)] 57)) (w1.heap.size + 1) 57 #[.string ⟨#[76, 111, 99, 97, 116, 105, 111, 110]⟩, .string (bs o.loc)]) := by
          have := Blk.new (w1.alloc (.cells #[.int .i64 C, .slice none 0 0, .string ⟨#[]⟩, .bool close, .bool hd] 24)) 57 #[.string ⟨#[76, 111, 99, 97, 116, 105, 111, 110]⟩, .string (bs o.loc)]
          rw [show (w1.alloc (.cells #[.int .i64 C, .slice none 0 0, .string ⟨#[]⟩, .bool close, .bool hd] 24)).heap.size = w1.heap.size + 1 by simp] at this
          exact hide this
        have B3 := Lib.hid (((Below.refl w1.heap.size w1).alloc (Nat.le_refl _) (.cells #[.int .i64 C, .slice none 0 0, .string ⟨#[]⟩, .bool close, .bool hd] 24)).alloc (by simp) (.cells #[.string ⟨#[76, 111, 99, 97, 116, 105, 111, 110]⟩, .string (bs o.loc)] 57))
        have r0 : w1.cell? ⟨w.heap.size, 0, none⟩ = some (.string (bs r.method)) := (KC.out _ GW.out).1.cell 0
        have o0 : (w1.alloc (.cells #[.int .i64 C, .slice none 0 0, .string ⟨#[]⟩, .bool close, .bool hd] 24)).cell? ⟨w.heap.size + 1, 0, none⟩ = some (.int .i64 o.kind) := (KC.out _ G2.out).2.1.cell 0
        have o4 : (w1.alloc (.cells #[.int .i64 C, .slice none 0 0, .string ⟨#[]⟩, .bool close, .bool hd] 24)).cell? ⟨w.heap.size + 1, 4, none⟩ = some (.string (bs o.loc)) := (KC.out _ G2.out).2.1.cell 4
        clear g1 CC
        go_wp2_with fail
        (with_reducible refine (MR.out _ (KT.out _ (KC.out _ G3.out).2.2.2.2).2.1).mono ?_); rintro e w2 ⟨rfl, g2⟩
        have GX2 := Lib.hid (G3.out.trans (g2.mono G3.out.size))
        clear g2
        have z0 : w2.cell? ⟨w.heap.size + 1 + 1 + 1, 0, none⟩ = some (.int .i64 0) := (KC.out _ GX2.out).2.2.2.1.cell 0
        have zf0 : w2.frozen? ⟨w.heap.size + 1 + 1 + 1, 0, none⟩ = false := (KC.out _ GX2.out).2.2.2.1.frozen 0
        have z1 : w2.cell? ⟨w.heap.size + 1 + 1 + 1, 1, none⟩ = some (.slice none 0 0) := (KC.out _ GX2.out).2.2.2.1.cell 1
        have zf1 : w2.frozen? ⟨w.heap.size + 1 + 1 + 1, 1, none⟩ = false := (KC.out _ GX2.out).2.2.2.1.frozen 1
        have z2 : w2.cell? ⟨w.heap.size + 1 + 1 + 1, 2, none⟩ = some (.string ⟨#[]⟩) := (KC.out _ GX2.out).2.2.2.1.cell 2
        have zf2 : w2.frozen? ⟨w.heap.size + 1 + 1 + 1, 2, none⟩ = false := (KC.out _ GX2.out).2.2.2.1.frozen 2
        have z3 : w2.cell? ⟨w.heap.size + 1 + 1 + 1, 3, none⟩ = some (.bool false) := (KC.out _ GX2.out).2.2.2.1.cell 3
        have zf3 : w2.frozen? ⟨w.heap.size + 1 + 1 + 1, 3, none⟩ = false := (KC.out _ GX2.out).2.2.2.1.frozen 3
        have z4 : w2.cell? ⟨w.heap.size + 1 + 1 + 1, 4, none⟩ = some (.bool false) := (KC.out _ GX2.out).2.2.2.1.cell 4
        have zf4 : w2.frozen? ⟨w.heap.size + 1 + 1 + 1, 4, none⟩ = false := (KC.out _ GX2.out).2.2.2.1.frozen 4
        have KZ := Lib.hid (blk5H (KC.out _ GX2.out).2.2.2.1 (.int .i64 0) (.slice none 0 0) (.string ⟨#[]⟩) (.bool false) (.bool false))
        have GZ := Lib.hid (bel5H (KC.out _ GX2.out).2.2.2.2 (by omega : w.heap.size ≤ w.heap.size + 1 + 1 + 1) (.int .i64 0) (.slice none 0 0) (.string ⟨#[]⟩) (.bool false) (.bool false))
        go_wp2_with fail
        refine bodyPost_ret (results_cell_tmpH (p := 8) (t := 9) (ty := 24) (by kernel_rfl) _ _ (w.heap.size + 1 + 1 + 1) _ _ rfl (ld5H KZ.out rfl) rfl) rfl ?_
        exact ⟨none, 0, rfl, Reads.none_, GZ.out⟩
    · have hkf : (o.kind == 2) = false := by rw [beq_eq_false_iff_ne]; exact hk
      have hkt : (o.kind != 2) = true := by rw [bne_iff_ne]; exact hk
      rcases code_cases HCE.out hk with ⟨h200, hck, hok⟩ | ⟨h200, hpg⟩
      · subst h200
        have hCt : ((200 : Int) == 200) = true := by decide
        obtain ⟨b, hb⟩ : ∃ b, (bodyT f r).1 = b := ⟨_, rfl⟩
        have BB := Lib.hid (fun X (hX : Below w.heap.size w X) => bd f r S N V FA cs cn cv fn fc host b hb X HL.out (KT.out X hX).2.2.1 (KT.out X hX).2.2.2)
        by_cases heb : (bodyT f r).2 = 0
        · have hA : answerT r o.kind o.code o.loc f close = (⟨200, [textF], b, close, hd⟩, 0) := by
            unfold answerT; rw [HCE.out]; simp only [HH.out]; rw [if_neg (by simp), if_neg hk, if_pos trivial, if_neg (by simp [heb]), hb]
          rw [ans_ok hA]
          rw [heb] at BB
          clear hA heb hk hb hok hck
          go_enter Tryz.func19, Tryz.ntmps19
          go_wp2_with fail
          (with_reducible refine (CC.out).mono ?_); rintro e w1 ⟨rfl, g1⟩
          rw [HW.out.1] at g1
          have GW := Lib.hid g1
          have G2 := Lib.hid (g1.alloc g1.size (.cells #[.int .i64 200, .slice none 0 0, .string ⟨#[]⟩, .bool close, .bool hd] 24))
          have K2 := Lib.hid (Blk.new w1 24 #[.int .i64 200, .slice none 0 0, .string ⟨#[]⟩, .bool close, .bool hd])
          clear g1 CC
          have r0 : w1.cell? ⟨w.heap.size, 0, none⟩ = some (.string (bs r.method)) := (KC.out _ GW.out).1.cell 0
          have o0 : (w1.alloc (.cells #[.int .i64 200, .slice none 0 0, .string ⟨#[]⟩, .bool close, .bool hd] 24)).cell? ⟨w.heap.size + 1, 0, none⟩ = some (.int .i64 o.kind) := (KC.out _ G2.out).2.1.cell 0
          have y1 : (w1.alloc (.cells #[.int .i64 200, .slice none 0 0, .string ⟨#[]⟩, .bool close, .bool hd] 24)).cell? ⟨w1.heap.size, 1, none⟩ = some (.slice none 0 0) := K2.out.cell 1
          have B1 := Lib.hid ((Below.refl w1.heap.size w1).alloc (Nat.le_refl _) (.cells #[.int .i64 200, .slice none 0 0, .string ⟨#[]⟩, .bool close, .bool hd] 24))
          go_wp2_with fail
          have AO := Lib.hid (fun v1 hv => app0 (W := w1) (X := (w1.alloc (.cells #[.int .i64 200, .slice none 0 0, .string ⟨#[]⟩, .bool close, .bool hd] 24)).drew) (C := 200) (close := close) (hd := hd) K2.out.drew (Nat.le_refl _) B1.out.drew v1 hv)
          go_region_law (first
            | (go_simp; go_at_call 47; (with_reducible refine (HP.out _).mono ?_); rintro e v1 ⟨rfl, hv1⟩
               obtain ⟨A2, c2, w5, hrun, q1, q2, q3, q4, HX⟩ := AO.out v1 hv1)
            | (refine step_append_run hrun (by rfl) _ _ (by rfl) (by rfl) (by rfl) (by rfl) ?_))
          all_goals (
            have GX := Lib.hid (GW.out.trans (HX.out.2.2.mono GW.out.size))
            have u0 : (w5.setCell ⟨w1.heap.size, 1, none⟩ (.slice A2 1 c2)).cell? ⟨w.heap.size, 0, none⟩ = some (.string (bs r.method)) := (KC.out _ GX.out).1.cell 0
            have u1 : (w5.setCell ⟨w1.heap.size, 1, none⟩ (.slice A2 1 c2)).cell? ⟨w.heap.size, 1, none⟩ = some (.string (bs r.path)) := (KC.out _ GX.out).1.cell 1
            have u2 : (w5.setCell ⟨w1.heap.size, 1, none⟩ (.slice A2 1 c2)).cell? ⟨w.heap.size, 2, none⟩ = some (.string (bs r.query)) := (KC.out _ GX.out).1.cell 2
            have u3 : (w5.setCell ⟨w1.heap.size, 1, none⟩ (.slice A2 1 c2)).cell? ⟨w.heap.size, 3, none⟩ = some (.string host) := (KC.out _ GX.out).1.cell 3
            have u4 : (w5.setCell ⟨w1.heap.size, 1, none⟩ (.slice A2 1 c2)).cell? ⟨w.heap.size, 4, none⟩ = some (.slice FA fn fc) := (KC.out _ GX.out).1.cell 4
            have u5 : (w5.setCell ⟨w1.heap.size, 1, none⟩ (.slice A2 1 c2)).cell? ⟨w.heap.size, 5, none⟩ = some (.string (bs r.body)) := (KC.out _ GX.out).1.cell 5
            have v0 : (w5.setCell ⟨w1.heap.size, 1, none⟩ (.slice A2 1 c2)).cell? ⟨w.heap.size + 1 + 1, 0, none⟩ = some (.bool f.ok) := (KC.out _ GX.out).2.2.1.cell 0
            have v1 : (w5.setCell ⟨w1.heap.size, 1, none⟩ (.slice A2 1 c2)).cell? ⟨w.heap.size + 1 + 1, 1, none⟩ = some (.slice S f.segs.length cs) := (KC.out _ GX.out).2.2.1.cell 1
            have v2 : (w5.setCell ⟨w1.heap.size, 1, none⟩ (.slice A2 1 c2)).cell? ⟨w.heap.size + 1 + 1, 2, none⟩ = some (.int .i64 f.kind) := (KC.out _ GX.out).2.2.1.cell 2
            have v3 : (w5.setCell ⟨w1.heap.size, 1, none⟩ (.slice A2 1 c2)).cell? ⟨w.heap.size + 1 + 1, 3, none⟩ = some (.string (bs f.text)) := (KC.out _ GX.out).2.2.1.cell 3
            have v4 : (w5.setCell ⟨w1.heap.size, 1, none⟩ (.slice A2 1 c2)).cell? ⟨w.heap.size + 1 + 1, 4, none⟩ = some (.slice N f.names.length cn) := (KC.out _ GX.out).2.2.1.cell 4
            have v5 : (w5.setCell ⟨w1.heap.size, 1, none⟩ (.slice A2 1 c2)).cell? ⟨w.heap.size + 1 + 1, 5, none⟩ = some (.slice V f.vals.length cv) := (KC.out _ GX.out).2.2.1.cell 5
            have v6 : (w5.setCell ⟨w1.heap.size, 1, none⟩ (.slice A2 1 c2)).cell? ⟨w.heap.size + 1 + 1, 6, none⟩ = some (.string (bs f.rest)) := (KC.out _ GX.out).2.2.1.cell 6
            clear q1 q2 q3 q4 hrun hv1
            go_wp2_with fail
            (with_reducible refine (BB.out _ (KC.out _ GX.out).2.2.2.2).mono ?_); rintro e w6 ⟨rfl, g6⟩
            have K6 := Lib.hid (HX.out.1.below g6 HX.out.1.lt)
            have O6 := Lib.hid (own_below HX.out.2.1 g6)
            have G6 := Lib.hid (GX.out.trans (g6.mono GX.out.size))
            have G7 := Lib.hid (G6.out.setCell (p := ⟨w1.heap.size, 2, none⟩) GW.out.size (.string (bs b)))
            have K7 := Lib.hid (set2 K6.out (.string (bs b)))
            have O7 := Lib.hid (own2 O6.out K6.out (.string (bs b)))
            have f6 : w6.frozen? ⟨w1.heap.size, 2, none⟩ = false := K6.out.frozen 2
            have c6 : w6.cell? ⟨w1.heap.size, 2, none⟩ = some (.string ⟨#[]⟩) := K6.out.cell 2
            have x0 : (w6.setCell ⟨w1.heap.size, 2, none⟩ (.string (bs b))).cell? ⟨w1.heap.size, 0, none⟩ = some (.int .i64 200) := K7.out.cell 0
            have x1 : (w6.setCell ⟨w1.heap.size, 2, none⟩ (.string (bs b))).cell? ⟨w1.heap.size, 1, none⟩ = some (.slice A2 1 c2) := K7.out.cell 1
            have x2 : (w6.setCell ⟨w1.heap.size, 2, none⟩ (.string (bs b))).cell? ⟨w1.heap.size, 2, none⟩ = some (.string (bs b)) := K7.out.cell 2
            have x3 : (w6.setCell ⟨w1.heap.size, 2, none⟩ (.string (bs b))).cell? ⟨w1.heap.size, 3, none⟩ = some (.bool close) := K7.out.cell 3
            have x4 : (w6.setCell ⟨w1.heap.size, 2, none⟩ (.string (bs b))).cell? ⟨w1.heap.size, 4, none⟩ = some (.bool hd) := K7.out.cell 4
            have z0 : (w6.setCell ⟨w1.heap.size, 2, none⟩ (.string (bs b))).cell? ⟨w.heap.size + 1 + 1 + 1, 0, none⟩ = some (.int .i64 0) := (KC.out _ G7.out).2.2.2.1.cell 0
            have zf0 : (w6.setCell ⟨w1.heap.size, 2, none⟩ (.string (bs b))).frozen? ⟨w.heap.size + 1 + 1 + 1, 0, none⟩ = false := (KC.out _ G7.out).2.2.2.1.frozen 0
            have z1 : (w6.setCell ⟨w1.heap.size, 2, none⟩ (.string (bs b))).cell? ⟨w.heap.size + 1 + 1 + 1, 1, none⟩ = some (.slice none 0 0) := (KC.out _ G7.out).2.2.2.1.cell 1
            have zf1 : (w6.setCell ⟨w1.heap.size, 2, none⟩ (.string (bs b))).frozen? ⟨w.heap.size + 1 + 1 + 1, 1, none⟩ = false := (KC.out _ G7.out).2.2.2.1.frozen 1
            have z2 : (w6.setCell ⟨w1.heap.size, 2, none⟩ (.string (bs b))).cell? ⟨w.heap.size + 1 + 1 + 1, 2, none⟩ = some (.string ⟨#[]⟩) := (KC.out _ G7.out).2.2.2.1.cell 2
            have zf2 : (w6.setCell ⟨w1.heap.size, 2, none⟩ (.string (bs b))).frozen? ⟨w.heap.size + 1 + 1 + 1, 2, none⟩ = false := (KC.out _ G7.out).2.2.2.1.frozen 2
            have z3 : (w6.setCell ⟨w1.heap.size, 2, none⟩ (.string (bs b))).cell? ⟨w.heap.size + 1 + 1 + 1, 3, none⟩ = some (.bool false) := (KC.out _ G7.out).2.2.2.1.cell 3
            have zf3 : (w6.setCell ⟨w1.heap.size, 2, none⟩ (.string (bs b))).frozen? ⟨w.heap.size + 1 + 1 + 1, 3, none⟩ = false := (KC.out _ G7.out).2.2.2.1.frozen 3
            have z4 : (w6.setCell ⟨w1.heap.size, 2, none⟩ (.string (bs b))).cell? ⟨w.heap.size + 1 + 1 + 1, 4, none⟩ = some (.bool false) := (KC.out _ G7.out).2.2.2.1.cell 4
            have zf4 : (w6.setCell ⟨w1.heap.size, 2, none⟩ (.string (bs b))).frozen? ⟨w.heap.size + 1 + 1 + 1, 4, none⟩ = false := (KC.out _ G7.out).2.2.2.1.frozen 4
            have FIN := Lib.hid (fin5 O7.out (by have := HW.out.2; have := GW.out.size; omega : w.heap.size + 1 + 1 + 1 < w1.heap.size) (by omega : w.heap.size ≤ w.heap.size + 1 + 1 + 1) (KC.out _ G7.out).2.2.2.2 (KC.out _ G7.out).2.2.2.1 (.int .i64 200) (.slice A2 1 c2) (.string (bs b)) (.bool close) (.bool hd))
            clear g6
            go_wp2_with fail
            refine bodyPost_ret (results_cell_tmpH (p := 8) (t := 9) (ty := 24) (by kernel_rfl) _ _ (w.heap.size + 1 + 1 + 1) _ _ rfl (ld5H FIN.out.1 rfl) rfl) rfl ?_
            exact ⟨A2, c2, rfl, FIN.out.2.1, FIN.out.2.2⟩)
        · have hA : answerT r o.kind o.code o.loc f close = (noR, (bodyT f r).2) := by
            unfold answerT; rw [HCE.out]; simp only [HH.out]; rw [if_neg (by simp), if_neg hk, if_pos trivial, if_pos heb]
          rw [ans_err hA]
          obtain ⟨E, hE⟩ : ∃ E, (bodyT f r).2 = E := ⟨_, rfl⟩
          rw [hE] at BB heb ⊢
          have hne : ((E : Int) != 0) = true := by rw [bne_iff_ne]; omega
          clear hA heb hk hb hok hck hE
          go_enter Tryz.func19, Tryz.ntmps19
          go_wp2_with fail
          (with_reducible refine (CC.out).mono ?_); rintro e w1 ⟨rfl, g1⟩
          rw [HW.out.1] at g1
          have GW := Lib.hid g1
          have G2 := Lib.hid (g1.alloc g1.size (.cells #[.int .i64 200, .slice none 0 0, .string ⟨#[]⟩, .bool close, .bool hd] 24))
          have K2 := Lib.hid (Blk.new w1 24 #[.int .i64 200, .slice none 0 0, .string ⟨#[]⟩, .bool close, .bool hd])
          clear g1 CC
          have r0 : w1.cell? ⟨w.heap.size, 0, none⟩ = some (.string (bs r.method)) := (KC.out _ GW.out).1.cell 0
          have o0 : (w1.alloc (.cells #[.int .i64 200, .slice none 0 0, .string ⟨#[]⟩, .bool close, .bool hd] 24)).cell? ⟨w.heap.size + 1, 0, none⟩ = some (.int .i64 o.kind) := (KC.out _ G2.out).2.1.cell 0
          have y1 : (w1.alloc (.cells #[.int .i64 200, .slice none 0 0, .string ⟨#[]⟩, .bool close, .bool hd] 24)).cell? ⟨w1.heap.size, 1, none⟩ = some (.slice none 0 0) := K2.out.cell 1
          have B1 := Lib.hid ((Below.refl w1.heap.size w1).alloc (Nat.le_refl _) (.cells #[.int .i64 200, .slice none 0 0, .string ⟨#[]⟩, .bool close, .bool hd] 24))
          go_wp2_with fail
          have AO := Lib.hid (fun v1 hv => app0 (W := w1) (X := (w1.alloc (.cells #[.int .i64 200, .slice none 0 0, .string ⟨#[]⟩, .bool close, .bool hd] 24)).drew) (C := 200) (close := close) (hd := hd) K2.out.drew (Nat.le_refl _) B1.out.drew v1 hv)
          go_region_law (first
            | (go_simp; go_at_call 47; (with_reducible refine (HP.out _).mono ?_); rintro e v1 ⟨rfl, hv1⟩
               obtain ⟨A2, c2, w5, hrun, q1, q2, q3, q4, HX⟩ := AO.out v1 hv1)
            | (refine step_append_run hrun (by rfl) _ _ (by rfl) (by rfl) (by rfl) (by rfl) ?_))
          all_goals (
            have GX := Lib.hid (GW.out.trans (HX.out.2.2.mono GW.out.size))
            have u0 : (w5.setCell ⟨w1.heap.size, 1, none⟩ (.slice A2 1 c2)).cell? ⟨w.heap.size, 0, none⟩ = some (.string (bs r.method)) := (KC.out _ GX.out).1.cell 0
            have u1 : (w5.setCell ⟨w1.heap.size, 1, none⟩ (.slice A2 1 c2)).cell? ⟨w.heap.size, 1, none⟩ = some (.string (bs r.path)) := (KC.out _ GX.out).1.cell 1
            have u2 : (w5.setCell ⟨w1.heap.size, 1, none⟩ (.slice A2 1 c2)).cell? ⟨w.heap.size, 2, none⟩ = some (.string (bs r.query)) := (KC.out _ GX.out).1.cell 2
            have u3 : (w5.setCell ⟨w1.heap.size, 1, none⟩ (.slice A2 1 c2)).cell? ⟨w.heap.size, 3, none⟩ = some (.string host) := (KC.out _ GX.out).1.cell 3
            have u4 : (w5.setCell ⟨w1.heap.size, 1, none⟩ (.slice A2 1 c2)).cell? ⟨w.heap.size, 4, none⟩ = some (.slice FA fn fc) := (KC.out _ GX.out).1.cell 4
            have u5 : (w5.setCell ⟨w1.heap.size, 1, none⟩ (.slice A2 1 c2)).cell? ⟨w.heap.size, 5, none⟩ = some (.string (bs r.body)) := (KC.out _ GX.out).1.cell 5
            have v0 : (w5.setCell ⟨w1.heap.size, 1, none⟩ (.slice A2 1 c2)).cell? ⟨w.heap.size + 1 + 1, 0, none⟩ = some (.bool f.ok) := (KC.out _ GX.out).2.2.1.cell 0
            have v1 : (w5.setCell ⟨w1.heap.size, 1, none⟩ (.slice A2 1 c2)).cell? ⟨w.heap.size + 1 + 1, 1, none⟩ = some (.slice S f.segs.length cs) := (KC.out _ GX.out).2.2.1.cell 1
            have v2 : (w5.setCell ⟨w1.heap.size, 1, none⟩ (.slice A2 1 c2)).cell? ⟨w.heap.size + 1 + 1, 2, none⟩ = some (.int .i64 f.kind) := (KC.out _ GX.out).2.2.1.cell 2
            have v3 : (w5.setCell ⟨w1.heap.size, 1, none⟩ (.slice A2 1 c2)).cell? ⟨w.heap.size + 1 + 1, 3, none⟩ = some (.string (bs f.text)) := (KC.out _ GX.out).2.2.1.cell 3
            have v4 : (w5.setCell ⟨w1.heap.size, 1, none⟩ (.slice A2 1 c2)).cell? ⟨w.heap.size + 1 + 1, 4, none⟩ = some (.slice N f.names.length cn) := (KC.out _ GX.out).2.2.1.cell 4
            have v5 : (w5.setCell ⟨w1.heap.size, 1, none⟩ (.slice A2 1 c2)).cell? ⟨w.heap.size + 1 + 1, 5, none⟩ = some (.slice V f.vals.length cv) := (KC.out _ GX.out).2.2.1.cell 5
            have v6 : (w5.setCell ⟨w1.heap.size, 1, none⟩ (.slice A2 1 c2)).cell? ⟨w.heap.size + 1 + 1, 6, none⟩ = some (.string (bs f.rest)) := (KC.out _ GX.out).2.2.1.cell 6
            clear q1 q2 q3 q4 hrun hv1
            go_wp2_with fail
            (with_reducible refine (BB.out _ (KC.out _ GX.out).2.2.2.2).mono ?_); rintro e w6 ⟨rfl, g6⟩
            have K6 := Lib.hid (HX.out.1.below g6 HX.out.1.lt)
            have O6 := Lib.hid (own_below HX.out.2.1 g6)
            have G6 := Lib.hid (GX.out.trans (g6.mono GX.out.size))
            have G7 := Lib.hid (G6.out.setCell (p := ⟨w1.heap.size, 2, none⟩) GW.out.size (.string (bs b)))
            have K7 := Lib.hid (set2 K6.out (.string (bs b)))
            have O7 := Lib.hid (own2 O6.out K6.out (.string (bs b)))
            have f6 : w6.frozen? ⟨w1.heap.size, 2, none⟩ = false := K6.out.frozen 2
            have c6 : w6.cell? ⟨w1.heap.size, 2, none⟩ = some (.string ⟨#[]⟩) := K6.out.cell 2
            have z0 : (w6.setCell ⟨w1.heap.size, 2, none⟩ (.string (bs b))).cell? ⟨w.heap.size + 1 + 1 + 1, 0, none⟩ = some (.int .i64 0) := (KC.out _ G7.out).2.2.2.1.cell 0
            have zf0 : (w6.setCell ⟨w1.heap.size, 2, none⟩ (.string (bs b))).frozen? ⟨w.heap.size + 1 + 1 + 1, 0, none⟩ = false := (KC.out _ G7.out).2.2.2.1.frozen 0
            have z1 : (w6.setCell ⟨w1.heap.size, 2, none⟩ (.string (bs b))).cell? ⟨w.heap.size + 1 + 1 + 1, 1, none⟩ = some (.slice none 0 0) := (KC.out _ G7.out).2.2.2.1.cell 1
            have zf1 : (w6.setCell ⟨w1.heap.size, 2, none⟩ (.string (bs b))).frozen? ⟨w.heap.size + 1 + 1 + 1, 1, none⟩ = false := (KC.out _ G7.out).2.2.2.1.frozen 1
            have z2 : (w6.setCell ⟨w1.heap.size, 2, none⟩ (.string (bs b))).cell? ⟨w.heap.size + 1 + 1 + 1, 2, none⟩ = some (.string ⟨#[]⟩) := (KC.out _ G7.out).2.2.2.1.cell 2
            have zf2 : (w6.setCell ⟨w1.heap.size, 2, none⟩ (.string (bs b))).frozen? ⟨w.heap.size + 1 + 1 + 1, 2, none⟩ = false := (KC.out _ G7.out).2.2.2.1.frozen 2
            have z3 : (w6.setCell ⟨w1.heap.size, 2, none⟩ (.string (bs b))).cell? ⟨w.heap.size + 1 + 1 + 1, 3, none⟩ = some (.bool false) := (KC.out _ G7.out).2.2.2.1.cell 3
            have zf3 : (w6.setCell ⟨w1.heap.size, 2, none⟩ (.string (bs b))).frozen? ⟨w.heap.size + 1 + 1 + 1, 3, none⟩ = false := (KC.out _ G7.out).2.2.2.1.frozen 3
            have z4 : (w6.setCell ⟨w1.heap.size, 2, none⟩ (.string (bs b))).cell? ⟨w.heap.size + 1 + 1 + 1, 4, none⟩ = some (.bool false) := (KC.out _ G7.out).2.2.2.1.cell 4
            have zf4 : (w6.setCell ⟨w1.heap.size, 2, none⟩ (.string (bs b))).frozen? ⟨w.heap.size + 1 + 1 + 1, 4, none⟩ = false := (KC.out _ G7.out).2.2.2.1.frozen 4
            have KZ := Lib.hid (blk5H (KC.out _ G7.out).2.2.2.1 (.int .i64 0) (.slice none 0 0) (.string ⟨#[]⟩) (.bool false) (.bool false))
            have GZ := Lib.hid (bel5H (KC.out _ G7.out).2.2.2.2 (by omega : w.heap.size ≤ w.heap.size + 1 + 1 + 1) (.int .i64 0) (.slice none 0 0) (.string ⟨#[]⟩) (.bool false) (.bool false))
            clear g6
            go_wp2_with fail
            refine bodyPost_ret (results_cell_tmpH (p := 8) (t := 9) (ty := 24) (by kernel_rfl) _ _ (w.heap.size + 1 + 1 + 1) _ _ rfl (ld5H KZ.out rfl) rfl) rfl ?_
            exact ⟨none, 0, rfl, Reads.none_, GZ.out⟩)
      · have hCf : (C == 200) = false := by rw [beq_eq_false_iff_ne]; exact h200
        have hA : answerT r o.kind o.code o.loc f close = (⟨C, [textF], (pageT C).1, close, hd⟩, 0) := by
          unfold answerT; rw [HCE.out]; simp only [HH.out]; rw [if_neg (by simp), if_neg hk, if_neg h200]
        rw [ans_ok hA]
        obtain ⟨pt, hpt⟩ : ∃ pt, (pageT C).1 = pt := ⟨_, rfl⟩
        have PP := Lib.hid (fun X (hX : Tab42 X) => pg C pt hpt hpg X hX)
        rw [hpt]
        have HPT := Lib.hid (And.intro hpt hpg)
        clear hA hpt hpg h200 hk
        go_enter Tryz.func19, Tryz.ntmps19
        go_wp2_with fail
        (with_reducible refine (CC.out).mono ?_); rintro e w1 ⟨rfl, g1⟩
        rw [HW.out.1] at g1
        have GW := Lib.hid g1
        have G2 := Lib.hid (g1.alloc g1.size (.cells #[.int .i64 C, .slice none 0 0, .string ⟨#[]⟩, .bool close, .bool hd] 24))
        have K2 := Lib.hid (Blk.new w1 24 #[.int .i64 C, .slice none 0 0, .string ⟨#[]⟩, .bool close, .bool hd])
        clear g1 CC
        have r0 : w1.cell? ⟨w.heap.size, 0, none⟩ = some (.string (bs r.method)) := (KC.out _ GW.out).1.cell 0
        have o0 : (w1.alloc (.cells #[.int .i64 C, .slice none 0 0, .string ⟨#[]⟩, .bool close, .bool hd] 24)).cell? ⟨w.heap.size + 1, 0, none⟩ = some (.int .i64 o.kind) := (KC.out _ G2.out).2.1.cell 0
        have y1 : (w1.alloc (.cells #[.int .i64 C, .slice none 0 0, .string ⟨#[]⟩, .bool close, .bool hd] 24)).cell? ⟨w1.heap.size, 1, none⟩ = some (.slice none 0 0) := K2.out.cell 1
        have B1 := Lib.hid ((Below.refl w1.heap.size w1).alloc (Nat.le_refl _) (.cells #[.int .i64 C, .slice none 0 0, .string ⟨#[]⟩, .bool close, .bool hd] 24))
        go_wp2_with fail
        have AO := Lib.hid (fun v1 hv => app0 (W := w1) (X := (w1.alloc (.cells #[.int .i64 C, .slice none 0 0, .string ⟨#[]⟩, .bool close, .bool hd] 24)).drew) (C := C) (close := close) (hd := hd) K2.out.drew (Nat.le_refl _) B1.out.drew v1 hv)
        go_region_law (first
          | (go_simp; go_at_call 47; (with_reducible refine (HP.out _).mono ?_); rintro e v1 ⟨rfl, hv1⟩
             obtain ⟨A2, c2, w5, hrun, q1, q2, q3, q4, HX⟩ := AO.out v1 hv1)
          | (refine step_append_run hrun (by rfl) _ _ (by rfl) (by rfl) (by rfl) (by rfl) ?_))
        all_goals (
          have GX := Lib.hid (GW.out.trans (HX.out.2.2.mono GW.out.size))
          have o1 : (w5.setCell ⟨w1.heap.size, 1, none⟩ (.slice A2 1 c2)).cell? ⟨w.heap.size + 1, 0, none⟩ = some (.int .i64 o.kind) := (KC.out _ GX.out).2.1.cell 0
          clear q1 q2 q3 q4 hrun hv1
          go_wp2_with fail
          (with_reducible refine (PP.out _ (KT.out _ (KC.out _ GX.out).2.2.2.2).1).mono ?_); rintro e w6 ⟨rfl, g6⟩
          have K6 := Lib.hid (HX.out.1.below g6 HX.out.1.lt)
          have O6 := Lib.hid (own_below HX.out.2.1 g6)
          have G6 := Lib.hid (GX.out.trans (g6.mono GX.out.size))
          have G7 := Lib.hid (G6.out.setCell (p := ⟨w1.heap.size, 2, none⟩) GW.out.size (.string (bs pt)))
          have K7 := Lib.hid (set2 K6.out (.string (bs pt)))
          have O7 := Lib.hid (own2 O6.out K6.out (.string (bs pt)))
          have f6 : w6.frozen? ⟨w1.heap.size, 2, none⟩ = false := K6.out.frozen 2
          have c6 : w6.cell? ⟨w1.heap.size, 2, none⟩ = some (.string ⟨#[]⟩) := K6.out.cell 2
          have x0 : (w6.setCell ⟨w1.heap.size, 2, none⟩ (.string (bs pt))).cell? ⟨w1.heap.size, 0, none⟩ = some (.int .i64 C) := K7.out.cell 0
          have x1 : (w6.setCell ⟨w1.heap.size, 2, none⟩ (.string (bs pt))).cell? ⟨w1.heap.size, 1, none⟩ = some (.slice A2 1 c2) := K7.out.cell 1
          have x2 : (w6.setCell ⟨w1.heap.size, 2, none⟩ (.string (bs pt))).cell? ⟨w1.heap.size, 2, none⟩ = some (.string (bs pt)) := K7.out.cell 2
          have x3 : (w6.setCell ⟨w1.heap.size, 2, none⟩ (.string (bs pt))).cell? ⟨w1.heap.size, 3, none⟩ = some (.bool close) := K7.out.cell 3
          have x4 : (w6.setCell ⟨w1.heap.size, 2, none⟩ (.string (bs pt))).cell? ⟨w1.heap.size, 4, none⟩ = some (.bool hd) := K7.out.cell 4
          have z0 : (w6.setCell ⟨w1.heap.size, 2, none⟩ (.string (bs pt))).cell? ⟨w.heap.size + 1 + 1 + 1, 0, none⟩ = some (.int .i64 0) := (KC.out _ G7.out).2.2.2.1.cell 0
          have zf0 : (w6.setCell ⟨w1.heap.size, 2, none⟩ (.string (bs pt))).frozen? ⟨w.heap.size + 1 + 1 + 1, 0, none⟩ = false := (KC.out _ G7.out).2.2.2.1.frozen 0
          have z1 : (w6.setCell ⟨w1.heap.size, 2, none⟩ (.string (bs pt))).cell? ⟨w.heap.size + 1 + 1 + 1, 1, none⟩ = some (.slice none 0 0) := (KC.out _ G7.out).2.2.2.1.cell 1
          have zf1 : (w6.setCell ⟨w1.heap.size, 2, none⟩ (.string (bs pt))).frozen? ⟨w.heap.size + 1 + 1 + 1, 1, none⟩ = false := (KC.out _ G7.out).2.2.2.1.frozen 1
          have z2 : (w6.setCell ⟨w1.heap.size, 2, none⟩ (.string (bs pt))).cell? ⟨w.heap.size + 1 + 1 + 1, 2, none⟩ = some (.string ⟨#[]⟩) := (KC.out _ G7.out).2.2.2.1.cell 2
          have zf2 : (w6.setCell ⟨w1.heap.size, 2, none⟩ (.string (bs pt))).frozen? ⟨w.heap.size + 1 + 1 + 1, 2, none⟩ = false := (KC.out _ G7.out).2.2.2.1.frozen 2
          have z3 : (w6.setCell ⟨w1.heap.size, 2, none⟩ (.string (bs pt))).cell? ⟨w.heap.size + 1 + 1 + 1, 3, none⟩ = some (.bool false) := (KC.out _ G7.out).2.2.2.1.cell 3
          have zf3 : (w6.setCell ⟨w1.heap.size, 2, none⟩ (.string (bs pt))).frozen? ⟨w.heap.size + 1 + 1 + 1, 3, none⟩ = false := (KC.out _ G7.out).2.2.2.1.frozen 3
          have z4 : (w6.setCell ⟨w1.heap.size, 2, none⟩ (.string (bs pt))).cell? ⟨w.heap.size + 1 + 1 + 1, 4, none⟩ = some (.bool false) := (KC.out _ G7.out).2.2.2.1.cell 4
          have zf4 : (w6.setCell ⟨w1.heap.size, 2, none⟩ (.string (bs pt))).frozen? ⟨w.heap.size + 1 + 1 + 1, 4, none⟩ = false := (KC.out _ G7.out).2.2.2.1.frozen 4
          have FIN := Lib.hid (fin5 O7.out (by have := HW.out.2; have := GW.out.size; omega : w.heap.size + 1 + 1 + 1 < w1.heap.size) (by omega : w.heap.size ≤ w.heap.size + 1 + 1 + 1) (KC.out _ G7.out).2.2.2.2 (KC.out _ G7.out).2.2.2.1 (.int .i64 C) (.slice A2 1 c2) (.string (bs pt)) (.bool close) (.bool hd))
          clear g6
          go_wp2_with fail
          refine bodyPost_ret (results_cell_tmpH (p := 8) (t := 9) (ty := 24) (by kernel_rfl) _ _ (w.heap.size + 1 + 1 + 1) _ _ rfl (ld5H FIN.out.1 rfl) rfl) rfl ?_
          exact ⟨A2, c2, rfl, FIN.out.2.1, FIN.out.2.2⟩)
  · have hA : answerT r o.kind o.code o.loc f close = (noR, E) := by unfold answerT; rw [HCE.out]; rw [if_pos hE]
    rw [ans_err hA]
    have hne : ((E : Int) != 0) = true := by rw [bne_iff_ne]; omega
    clear hA hE
    go_enter Tryz.func19, Tryz.ntmps19
    go_wp2_with fail
    (with_reducible refine (CC.out).mono ?_); rintro e w1 ⟨rfl, g1⟩
    rw [HW.out.1] at g1
    have GW := Lib.hid g1
    clear g1 CC
    have z0 : w1.cell? ⟨w.heap.size + 1 + 1 + 1, 0, none⟩ = some (.int .i64 0) := (KC.out _ GW.out).2.2.2.1.cell 0
    have zf0 := (KC.out _ GW.out).2.2.2.1.frozen 0
    have z1 : w1.cell? ⟨w.heap.size + 1 + 1 + 1, 1, none⟩ = some (.slice none 0 0) := (KC.out _ GW.out).2.2.2.1.cell 1
    have zf1 := (KC.out _ GW.out).2.2.2.1.frozen 1
    have z2 : w1.cell? ⟨w.heap.size + 1 + 1 + 1, 2, none⟩ = some (.string ⟨#[]⟩) := (KC.out _ GW.out).2.2.2.1.cell 2
    have zf2 := (KC.out _ GW.out).2.2.2.1.frozen 2
    have z3 : w1.cell? ⟨w.heap.size + 1 + 1 + 1, 3, none⟩ = some (.bool false) := (KC.out _ GW.out).2.2.2.1.cell 3
    have zf3 := (KC.out _ GW.out).2.2.2.1.frozen 3
    have z4 : w1.cell? ⟨w.heap.size + 1 + 1 + 1, 4, none⟩ = some (.bool false) := (KC.out _ GW.out).2.2.2.1.cell 4
    have zf4 := (KC.out _ GW.out).2.2.2.1.frozen 4
    have KZ := Lib.hid (blk5H (KC.out _ GW.out).2.2.2.1 (.int .i64 0) (.slice none 0 0) (.string ⟨#[]⟩) (.bool false) (.bool false))
    have GZ := Lib.hid (bel5H (KC.out _ GW.out).2.2.2.2 (by omega : w.heap.size ≤ w.heap.size + 1 + 1 + 1) (.int .i64 0) (.slice none 0 0) (.string ⟨#[]⟩) (.bool false) (.bool false))
    go_wp2_with fail
    refine bodyPost_ret (results_cell_tmpH (p := 8) (t := 9) (ty := 24) (by kernel_rfl) _ _ (w.heap.size + 1 + 1 + 1) _ _ rfl (ld5H KZ.out rfl) rfl) rfl ?_
    exact ⟨none, 0, rfl, Reads.none_, GZ.out⟩
end Go.Proofs.YthhlnpfcpgfcfaaGreatDoor
