/-
  wire: a byte of a body that comes in chunks.
-/
import Derived.Test.YtencphfhpnljlaaGreatDoorWp6
import Derived.Deep.RegionHeld3
import Derived.Deep.RegionHeld
namespace Go.Proofs.YtencphfhpnljlaaGreatDoor
open Go.RowKit

theorem blk_store8 {w : World} {g : Nat} {T : TypeId} {z0 z1 z2 z3 z4 z5 z6 z7 : Value} (h : Blk w g T #[z0, z1, z2, z3, z4, z5, z6, z7]) (v0 v1 v2 v3 v4 v5 v6 v7 : Value) : Blk ((((((((w.setCell ⟨g, 0, none⟩ v0).setCell ⟨g, 1, none⟩ v1).setCell ⟨g, 2, none⟩ v2).setCell ⟨g, 3, none⟩ v3).setCell ⟨g, 4, none⟩ v4).setCell ⟨g, 5, none⟩ v5).setCell ⟨g, 6, none⟩ v6).setCell ⟨g, 7, none⟩ v7) g T #[v0, v1, v2, v3, v4, v5, v6, v7] := by
  have b := ((((((((h.set_ 0 v0).set_ 1 v1).set_ 2 v2).set_ 3 v3).set_ 4 v4).set_ 5 v5).set_ 6 v6).set_ 7 v7)
  have e : (((((((((#[z0, z1, z2, z3, z4, z5, z6, z7] : Array Value).setIfInBounds 0 v0).setIfInBounds 1 v1).setIfInBounds 2 v2).setIfInBounds 3 v3).setIfInBounds 4 v4).setIfInBounds 5 v5).setIfInBounds 6 v6).setIfInBounds 7 v7) = #[v0, v1, v2, v3, v4, v5, v6, v7] := by simp
  rw [e] at b
  exact b
theorem only_store8 (w : World) (g : Nat) (v0 v1 v2 v3 v4 v5 v6 v7 : Value) : w.grownBy ((((((((w.setCell ⟨g, 0, none⟩ v0).setCell ⟨g, 1, none⟩ v1).setCell ⟨g, 2, none⟩ v2).setCell ⟨g, 3, none⟩ v3).setCell ⟨g, 4, none⟩ v4).setCell ⟨g, 5, none⟩ v5).setCell ⟨g, 6, none⟩ v6).setCell ⟨g, 7, none⟩ v7) (some g) := (Lib.grownBy_setB (Lib.grownBy_setB (Lib.grownBy_setB (Lib.grownBy_setB (Lib.grownBy_setB (Lib.grownBy_setB (Lib.grownBy_setB (Lib.grownBy_setB (World.grownBy.refl w (some g)) 0 v0) 1 v1) 2 v2) 3 v3) 4 v4) 5 v5) 6 v6) 7 v7)
theorem only_chunk8 (w : World) (g : Nat) (v0 v1 v2 v3 v4 v5 v6 v7 : Value) : w.grownBy ((((((((w.setCell ⟨g, 7, none⟩ v0).setCell ⟨g, 8, none⟩ v1).setCell ⟨g, 9, none⟩ v2).setCell ⟨g, 10, none⟩ v3).setCell ⟨g, 11, none⟩ v4).setCell ⟨g, 12, none⟩ v5).setCell ⟨g, 13, none⟩ v6).setCell ⟨g, 14, none⟩ v7) (some g) := (Lib.grownBy_setB (Lib.grownBy_setB (Lib.grownBy_setB (Lib.grownBy_setB (Lib.grownBy_setB (Lib.grownBy_setB (Lib.grownBy_setB (Lib.grownBy_setB (World.grownBy.refl w (some g)) 7 v0) 8 v1) 9 v2) 10 v3) 11 v4) 12 v5) 13 v6) 14 v7)
theorem wp_chunk (p : WireP) (f o : Value) (q : Ck) : (((((((((wpV p f o).setIfInBounds 7 (.int .i64 (q.st : Nat))).setIfInBounds 8 (.int .i64 (q.size : Nat))).setIfInBounds 9 (.int .i64 (q.digits : Nat))).setIfInBounds 10 (.int .i64 (q.left : Nat))).setIfInBounds 11 (.string (bs q.body))).setIfInBounds 12 (.string (bs q.line))).setIfInBounds 13 (.int .i64 (q.lines : Nat))).setIfInBounds 14 (.int .i64 (q.status : Nat))) = wpV { p with chunks := q } f o := by simp [wpV, wpA]
theorem ParW.chunk {w0 w : World} {g : Nat} {p : WireP} {evs : List EvP} {A O : Option Addr} {c oc : Nat} {X : List EvM} (h : ParW w0 w g p evs A c O oc X) (q : Ck) :
    ParW w0 ((((((((w.setCell ⟨g, 7, none⟩ (.int .i64 (q.st : Nat))).setCell ⟨g, 8, none⟩ (.int .i64 (q.size : Nat))).setCell ⟨g, 9, none⟩ (.int .i64 (q.digits : Nat))).setCell ⟨g, 10, none⟩ (.int .i64 (q.left : Nat))).setCell ⟨g, 11, none⟩ (.string (bs q.body))).setCell ⟨g, 12, none⟩ (.string (bs q.line))).setCell ⟨g, 13, none⟩ (.int .i64 (q.lines : Nat))).setCell ⟨g, 14, none⟩ (.int .i64 (q.status : Nat))) g { p with chunks := q } evs A c O oc X := by
  have b := ((((((((h.blk.set_ 7 (.int .i64 (q.st : Nat))).set_ 8 (.int .i64 (q.size : Nat))).set_ 9 (.int .i64 (q.digits : Nat))).set_ 10 (.int .i64 (q.left : Nat))).set_ 11 (.string (bs q.body))).set_ 12 (.string (bs q.line))).set_ 13 (.int .i64 (q.lines : Nat))).set_ 14 (.int .i64 (q.status : Nat)))
  rw [wp_chunk] at b
  have hg := only_chunk8 w g (.int .i64 (q.st : Nat)) (.int .i64 (q.size : Nat)) (.int .i64 (q.digits : Nat)) (.int .i64 (q.left : Nat)) (.string (bs q.body)) (.string (bs q.line)) (.int .i64 (q.lines : Nat)) (.int .i64 (q.status : Nat))
  exact h.turn hg b (own_only h.flds h.blk (by decide) hg)
theorem wp_over (p : WireP) (f o : Value) : (wpV p f o).setIfInBounds 15 (.bool true) = wpV { p with over := true } f o := by simp [wpV, wpA]
theorem ParW.over {w0 w : World} {g : Nat} {p : WireP} {evs : List EvP} {A O : Option Addr} {c oc : Nat} {X : List EvM} (h : ParW w0 w g p evs A c O oc X) :
    ParW w0 (w.setCell ⟨g, 15, none⟩ (.bool true)) g { p with over := true } evs A c O oc X := by
  have b := h.blk.set_ 15 (.bool true)
  rw [wp_over] at b
  have hg := Lib.grownBy_setB (World.grownBy.refl w (some g)) 15 (.bool true)
  exact h.turn hg b (own_only h.flds h.blk (by decide) hg)
theorem feed_one {c : Ck} (b : UInt8) (h : overC c = false) : feedC c [b] = (stepC c b, 1) := by
  simp [feedC, h]
theorem byte_convB (k : Nat) (x : UInt8) : ∀ (q : World) (cap : Nat), q.cell? ⟨k, 0, none⟩ = some (.int .u8 (x.toNat : Int)) → (convert 50 9 (.slice (some ⟨k, 0, none⟩) 1 cap)).run Tryz.prog q = .ok (.string ⟨#[x]⟩) q := fun q cap hq => run_convert_bytes_back (P := Tryz.prog) q 50 9 5 ⟨k, 0, none⟩ cap [x] Tryz.underlying50 Tryz.underlying5 Tryz.underlying9 (fun j hj => by
  have : j = 0 := by simpa using hj
  subst this
  exact hq)
/-- the decoder's next state lies in a block of its own -/
structure ChunkCut (w0 : World) (g : Nat) (p : WireP) (evs : List EvP) (A : Option Addr) (c : Nat) (O : Option Addr) (oc : Nat) (X : List EvM) (cs : Array Value) (z : Nat) (w : World) : Prop where
  par : ParW w0 w g p evs A c O oc X
  blk : Blk w z 32 cs
  ne : z ≠ g
theorem chunkCut_new {w0 W va : World} {g : Nat} {p : WireP} {evs : List EvP} {A O : Option Addr} {c oc : Nat} {X : List EvM} (h : ParW w0 W g p evs A c O oc X) (hb : Below W.heap.size W va) (cs : Array Value) :
    ChunkCut w0 g p evs A c O oc X cs va.heap.size (va.alloc (.cells cs 32)) :=
  ⟨h.later (hb.alloc hb.size _), Blk.new _ _ _, by have := (h.later hb).blk.lt; omega⟩
theorem chunkCut_store {w0 W va : World} {g z : Nat} {p : WireP} {evs : List EvP} {A O : Option Addr} {c oc : Nat} {X : List EvM} (h : ParW w0 W g p evs A c O oc X) (hb : Below W.heap.size W va) {z0 z1 z2 z3 z4 z5 z6 z7 : Value} (hz : Blk va z 32 #[z0, z1, z2, z3, z4, z5, z6, z7]) (hW : W.heap.size ≤ z) (v0 v1 v2 v3 v4 v5 v6 v7 : Value) :
    ChunkCut w0 g p evs A c O oc X #[v0, v1, v2, v3, v4, v5, v6, v7] z ((((((((va.setCell ⟨z, 0, none⟩ v0).setCell ⟨z, 1, none⟩ v1).setCell ⟨z, 2, none⟩ v2).setCell ⟨z, 3, none⟩ v3).setCell ⟨z, 4, none⟩ v4).setCell ⟨z, 5, none⟩ v5).setCell ⟨z, 6, none⟩ v6).setCell ⟨z, 7, none⟩ v7) := by
  have hl := h.blk.lt
  refine ⟨?_, blk_store8 hz v0 v1 v2 v3 v4 v5 v6 v7, by omega⟩
  exact h.later (((((((((hb.setCell (p := ⟨z, 0, none⟩) hW _).setCell (p := ⟨z, 1, none⟩) hW _).setCell (p := ⟨z, 2, none⟩) hW _).setCell (p := ⟨z, 3, none⟩) hW _).setCell (p := ⟨z, 4, none⟩) hW _).setCell (p := ⟨z, 5, none⟩) hW _).setCell (p := ⟨z, 6, none⟩) hW _).setCell (p := ⟨z, 7, none⟩) hW _))
set_option maxRecDepth 100000 in
set_option maxHeartbeats 16000000 in
theorem pChunkW {w0 W : World} {g : Nat} {p : WireP} {evs : List EvP} (b : UInt8) (h : ParS w0 W g p evs) (hat : p.at_ = 4) (hc : OkC p.chunks) (ho : overC p.chunks = false) (he : evs.length ≤ 900000) (hn : p.flds.length ≤ 1000000) (hE : ∀ V, w0.grownBy V (some g) → ErrS V) :
    Calls Tryz.prog 50 #[.pointer (some ⟨g, 0, none⟩), .int .u8 (b.toNat : Int)] W (WPost w0 g (stepW p b).1 (evs ++ (stepW p b).2)) := by
  obtain ⟨A, c, O, oc, X, h0⟩ := h
  obtain ⟨q, hq⟩ : ∃ q, stepC p.chunks b = q := ⟨_, rfl⟩
  have hst : stepW p b = if q.st = 8 then failW { p with chunks := q, over := true } q.status else if q.st = 7 then doneW { p with chunks := q } q.body else ({ p with chunks := q }, []) := by
    unfold stepW; rw [if_neg (by omega), if_neg (by omega), if_neg (by omega), if_pos hat]; simp only [hq]
  have hfd := feed_one b ho
  rw [hq] at hfd
  have cF : ∀ V, Below W.heap.size W V → Calls Tryz.prog 82 #[.agg #[.int .i64 (p.chunks.st : Nat), .int .i64 (p.chunks.size : Nat), .int .i64 (p.chunks.digits : Nat), .int .i64 (p.chunks.left : Nat), .string (bs p.chunks.body), .string (bs p.chunks.line), .int .i64 (p.chunks.lines : Nat), .int .i64 (p.chunks.status : Nat)], .string ⟨#[b]⟩] V fun e w' => e = .returned (.tuple #[.agg #[.int .i64 (q.st : Nat), .int .i64 (q.size : Nat), .int .i64 (q.digits : Nat), .int .i64 (q.left : Nat), .string (bs q.body), .string (bs q.line), .int .i64 (q.lines : Nat), .int .i64 (q.status : Nat)], .int .i64 1, .int .i64 0]) ∧ Below V.heap.size V w' := fun V hV => by
    have cc := pFeedC hc (cleanCA_ok hc) ⟨#[b]⟩ (by show 1 ≤ _; omega) V (hE V (h0.later hV).only)
    rw [show ((⟨#[b]⟩ : ByteArray).data.toList) = [b] from rfl, hfd] at cc
    exact cc
  have p0 : W.cell? ⟨g, 7, none⟩ = some (.int .i64 (p.chunks.st : Nat)) := h0.blk.cell 7
  have p1 : W.cell? ⟨g, 8, none⟩ = some (.int .i64 (p.chunks.size : Nat)) := h0.blk.cell 8
  have p2 : W.cell? ⟨g, 9, none⟩ = some (.int .i64 (p.chunks.digits : Nat)) := h0.blk.cell 9
  have p3 : W.cell? ⟨g, 10, none⟩ = some (.int .i64 (p.chunks.left : Nat)) := h0.blk.cell 10
  have p4 : W.cell? ⟨g, 11, none⟩ = some (.string (bs p.chunks.body)) := h0.blk.cell 11
  have p5 : W.cell? ⟨g, 12, none⟩ = some (.string (bs p.chunks.line)) := h0.blk.cell 12
  have p6 : W.cell? ⟨g, 13, none⟩ = some (.int .i64 (p.chunks.lines : Nat)) := h0.blk.cell 13
  have p7 : W.cell? ⟨g, 14, none⟩ = some (.int .i64 (p.chunks.status : Nat)) := h0.blk.cell 14
  have hgl := h0.blk.lt
  have SS : ∀ V, Below W.heap.size W V → V.cell? ⟨g, 7, none⟩ = some (.int .i64 (p.chunks.st : Nat)) ∧ V.cell? ⟨g, 8, none⟩ = some (.int .i64 (p.chunks.size : Nat)) ∧ V.cell? ⟨g, 9, none⟩ = some (.int .i64 (p.chunks.digits : Nat)) ∧ V.cell? ⟨g, 10, none⟩ = some (.int .i64 (p.chunks.left : Nat)) ∧ V.cell? ⟨g, 11, none⟩ = some (.string (bs p.chunks.body)) ∧ V.cell? ⟨g, 12, none⟩ = some (.string (bs p.chunks.line)) ∧ V.cell? ⟨g, 13, none⟩ = some (.int .i64 (p.chunks.lines : Nat)) ∧ V.cell? ⟨g, 14, none⟩ = some (.int .i64 (p.chunks.status : Nat)) := fun V hV => ⟨(hV.cell (p := ⟨g, 7, none⟩) hgl).trans p0, (hV.cell (p := ⟨g, 8, none⟩) hgl).trans p1, (hV.cell (p := ⟨g, 9, none⟩) hgl).trans p2, (hV.cell (p := ⟨g, 10, none⟩) hgl).trans p3, (hV.cell (p := ⟨g, 11, none⟩) hgl).trans p4, (hV.cell (p := ⟨g, 12, none⟩) hgl).trans p5, (hV.cell (p := ⟨g, 13, none⟩) hgl).trans p6, (hV.cell (p := ⟨g, 14, none⟩) hgl).trans p7⟩
  generalize (p.chunks.st : Int) = y0 at *
  generalize (p.chunks.size : Int) = y1 at *
  generalize (p.chunks.digits : Int) = y2 at *
  generalize (p.chunks.left : Int) = y3 at *
  generalize (bs p.chunks.body) = y4 at *
  generalize (bs p.chunks.line) = y5 at *
  generalize (p.chunks.lines : Int) = y6 at *
  generalize (p.chunks.status : Int) = y7 at *
  have CF := Lib.hid cF
  have S1 := Lib.hid SS
  have H0 := Lib.hid h0
  have HG := Lib.hid hgl
  have HST := Lib.hid hst
  have CV0 := byte_convB W.heap.size b
  have CV1 := byte_convB (W.heap.size + 1) b
  clear cF SS h0 hgl hst hfd hc ho hq hE
  have HD0 : Hid (Below W.heap.size W W.drew) := hide (Below.refl _ _).drew
  have DA : Hid (Below W.heap.size W (W.alloc (.cells #[.int .u8 (b.toNat : Int)] 5)).drew) := hide ((Below.refl W.heap.size W).alloc (Nat.le_refl _) _).drew
  have DB : Hid (Below W.heap.size W ((W.alloc (.cells #[.int .u8 (b.toNat : Int)] 5)).alloc (.cells #[.int .i64 0, .int .i64 0, .int .i64 0, .int .i64 0, .string ⟨#[]⟩, .string ⟨#[]⟩, .int .i64 0, .int .i64 0] 32)).drew) := hide (((Below.refl W.heap.size W).alloc (Nat.le_refl _) _).alloc (by simp) _).drew
  have DC : Hid (Below W.heap.size W ((W.alloc (.cells #[.int .i64 0, .int .i64 0, .int .i64 0, .int .i64 0, .string ⟨#[]⟩, .string ⟨#[]⟩, .int .i64 0, .int .i64 0] 32)).alloc (.cells #[.int .u8 (b.toNat : Int)] 5)).drew) := hide (((Below.refl W.heap.size W).alloc (Nat.le_refl _) _).alloc (by simp) _).drew
  have FB : Hid (Blk ((W.alloc (.cells #[.int .u8 (b.toNat : Int)] 5)).alloc (.cells #[.int .i64 0, .int .i64 0, .int .i64 0, .int .i64 0, .string ⟨#[]⟩, .string ⟨#[]⟩, .int .i64 0, .int .i64 0] 32)).drew (W.heap.size + 1) 32 #[.int .i64 0, .int .i64 0, .int .i64 0, .int .i64 0, .string ⟨#[]⟩, .string ⟨#[]⟩, .int .i64 0, .int .i64 0]) := hide (by have x := Blk.new (W.alloc (.cells #[.int .u8 (b.toNat : Int)] 5)) 32 #[.int .i64 0, .int .i64 0, .int .i64 0, .int .i64 0, .string ⟨#[]⟩, .string ⟨#[]⟩, .int .i64 0, .int .i64 0]; rw [show (W.alloc (.cells #[.int .u8 (b.toNat : Int)] 5)).heap.size = W.heap.size + 1 by simp] at x; exact x.drew)
  have FC : Hid (Blk ((W.alloc (.cells #[.int .i64 0, .int .i64 0, .int .i64 0, .int .i64 0, .string ⟨#[]⟩, .string ⟨#[]⟩, .int .i64 0, .int .i64 0] 32)).alloc (.cells #[.int .u8 (b.toNat : Int)] 5)).drew W.heap.size 32 #[.int .i64 0, .int .i64 0, .int .i64 0, .int .i64 0, .string ⟨#[]⟩, .string ⟨#[]⟩, .int .i64 0, .int .i64 0]) := hide ((Blk.new W 32 #[.int .i64 0, .int .i64 0, .int .i64 0, .int .i64 0, .string ⟨#[]⟩, .string ⟨#[]⟩, .int .i64 0, .int .i64 0]).alloc _).drew
  have m1 : ¬ (g = W.heap.size) := by have := HG.out; omega
  have m2 : ¬ (W.heap.size = g) := by have := HG.out; omega
  have m3 : ¬ (g = W.heap.size + 1) := by have := HG.out; omega
  have m4 : ¬ (W.heap.size + 1 = g) := by have := HG.out; omega
  generalize (b.toNat : Int) = bn at *
  have l0 : (0 : Int) < 1 := by omega
  go_enter Tryz.func50, Tryz.ntmps50
  go_upto_region 0 with (fail)
  go_cut [4] from 5 (fun v wx => ∃ z, v = .pointer (some ⟨z, 0, none⟩) ∧ Hid (ChunkCut w0 g p evs A c O oc X #[.int .i64 (q.st : Nat), .int .i64 (q.size : Nat), .int .i64 (q.digits : Nat), .int .i64 (q.left : Nat), .string (bs q.body), .string (bs q.line), .int .i64 (q.lines : Nat), .int .i64 (q.status : Nat)] z wx))
  case first =>
    go_region_held (fun w' => w'.cell? ⟨g, 7, none⟩ = some (.int .i64 y0) ∧ w'.cell? ⟨g, 8, none⟩ = some (.int .i64 y1) ∧ w'.cell? ⟨g, 9, none⟩ = some (.int .i64 y2) ∧ w'.cell? ⟨g, 10, none⟩ = some (.int .i64 y3) ∧ w'.cell? ⟨g, 11, none⟩ = some (.string y4) ∧ w'.cell? ⟨g, 12, none⟩ = some (.string y5) ∧ w'.cell? ⟨g, 13, none⟩ = some (.int .i64 y6) ∧ w'.cell? ⟨g, 14, none⟩ = some (.int .i64 y7)) (go_keep) (first
      | (go_at_call 82; (with_reducible refine (CF.out _ DA.out).mono ?_); rintro r va ⟨rfl, hva⟩; have hv2 : Hid (Below W.heap.size W va) := hide (DA.out.trans (hva.mono DA.out.size)); obtain ⟨s0, s1, s2, s3, s4, s5, s6, s7⟩ := S1.out va hv2.out; have m5 : ¬ (va.heap.size = g) := fun e => Nat.lt_irrefl g (Nat.lt_of_lt_of_eq (Nat.lt_of_lt_of_le HG.out hv2.out.size) e); have m6 : ¬ (g = va.heap.size) := fun e => m5 e.symm; clear hva)
      | (go_at_call 82; (with_reducible refine (CF.out _ DB.out).mono ?_); rintro r va ⟨rfl, hva⟩; have hv2 : Hid (Below W.heap.size W va) := hide (DB.out.trans (hva.mono DB.out.size)); obtain ⟨s0, s1, s2, s3, s4, s5, s6, s7⟩ := S1.out va hv2.out; have m5 : ¬ (va.heap.size = g) := fun e => Nat.lt_irrefl g (Nat.lt_of_lt_of_eq (Nat.lt_of_lt_of_le HG.out hv2.out.size) e); have m6 : ¬ (g = va.heap.size) := fun e => m5 e.symm; have kF := FB.out.below hva FB.out.lt; have c0 : va.cell? ⟨W.heap.size + 1, 0, none⟩ = some (.int .i64 0) := kF.cell 0; have d0 : va.frozen? ⟨W.heap.size + 1, 0, none⟩ = false := kF.frozen 0; have c1 : va.cell? ⟨W.heap.size + 1, 1, none⟩ = some (.int .i64 0) := kF.cell 1; have d1 : va.frozen? ⟨W.heap.size + 1, 1, none⟩ = false := kF.frozen 1; have c2 : va.cell? ⟨W.heap.size + 1, 2, none⟩ = some (.int .i64 0) := kF.cell 2; have d2 : va.frozen? ⟨W.heap.size + 1, 2, none⟩ = false := kF.frozen 2; have c3 : va.cell? ⟨W.heap.size + 1, 3, none⟩ = some (.int .i64 0) := kF.cell 3; have d3 : va.frozen? ⟨W.heap.size + 1, 3, none⟩ = false := kF.frozen 3; have c4 : va.cell? ⟨W.heap.size + 1, 4, none⟩ = some (.string ⟨#[]⟩) := kF.cell 4; have d4 : va.frozen? ⟨W.heap.size + 1, 4, none⟩ = false := kF.frozen 4; have c5 : va.cell? ⟨W.heap.size + 1, 5, none⟩ = some (.string ⟨#[]⟩) := kF.cell 5; have d5 : va.frozen? ⟨W.heap.size + 1, 5, none⟩ = false := kF.frozen 5; have c6 : va.cell? ⟨W.heap.size + 1, 6, none⟩ = some (.int .i64 0) := kF.cell 6; have d6 : va.frozen? ⟨W.heap.size + 1, 6, none⟩ = false := kF.frozen 6; have c7 : va.cell? ⟨W.heap.size + 1, 7, none⟩ = some (.int .i64 0) := kF.cell 7; have d7 : va.frozen? ⟨W.heap.size + 1, 7, none⟩ = false := kF.frozen 7; have KF := Lib.hid kF; clear kF; clear hva)
      | (go_at_call 82; (with_reducible refine (CF.out _ DC.out).mono ?_); rintro r va ⟨rfl, hva⟩; have hv2 : Hid (Below W.heap.size W va) := hide (DC.out.trans (hva.mono DC.out.size)); obtain ⟨s0, s1, s2, s3, s4, s5, s6, s7⟩ := S1.out va hv2.out; have m5 : ¬ (va.heap.size = g) := fun e => Nat.lt_irrefl g (Nat.lt_of_lt_of_eq (Nat.lt_of_lt_of_le HG.out hv2.out.size) e); have m6 : ¬ (g = va.heap.size) := fun e => m5 e.symm; have kF := FC.out.below hva FC.out.lt; have c0 : va.cell? ⟨W.heap.size, 0, none⟩ = some (.int .i64 0) := kF.cell 0; have d0 : va.frozen? ⟨W.heap.size, 0, none⟩ = false := kF.frozen 0; have c1 : va.cell? ⟨W.heap.size, 1, none⟩ = some (.int .i64 0) := kF.cell 1; have d1 : va.frozen? ⟨W.heap.size, 1, none⟩ = false := kF.frozen 1; have c2 : va.cell? ⟨W.heap.size, 2, none⟩ = some (.int .i64 0) := kF.cell 2; have d2 : va.frozen? ⟨W.heap.size, 2, none⟩ = false := kF.frozen 2; have c3 : va.cell? ⟨W.heap.size, 3, none⟩ = some (.int .i64 0) := kF.cell 3; have d3 : va.frozen? ⟨W.heap.size, 3, none⟩ = false := kF.frozen 3; have c4 : va.cell? ⟨W.heap.size, 4, none⟩ = some (.string ⟨#[]⟩) := kF.cell 4; have d4 : va.frozen? ⟨W.heap.size, 4, none⟩ = false := kF.frozen 4; have c5 : va.cell? ⟨W.heap.size, 5, none⟩ = some (.string ⟨#[]⟩) := kF.cell 5; have d5 : va.frozen? ⟨W.heap.size, 5, none⟩ = false := kF.frozen 5; have c6 : va.cell? ⟨W.heap.size, 6, none⟩ = some (.int .i64 0) := kF.cell 6; have d6 : va.frozen? ⟨W.heap.size, 6, none⟩ = false := kF.frozen 6; have c7 : va.cell? ⟨W.heap.size, 7, none⟩ = some (.int .i64 0) := kF.cell 7; have d7 : va.frozen? ⟨W.heap.size, 7, none⟩ = false := kF.frozen 7; have KF := Lib.hid kF; clear kF; clear hva))
    all_goals go_wp2_with fail
    all_goals go_meet
    all_goals (case rel => first | exact ⟨_, rfl, hide (chunkCut_new H0.out hv2.out _)⟩ | exact ⟨_, rfl, hide (chunkCut_store H0.out hv2.out KF.out (Nat.le_succ _) (.int .i64 (q.st : Nat)) (.int .i64 (q.size : Nat)) (.int .i64 (q.digits : Nat)) (.int .i64 (q.left : Nat)) (.string (bs q.body)) (.string (bs q.line)) (.int .i64 (q.lines : Nat)) (.int .i64 (q.status : Nat)))⟩ | exact ⟨_, rfl, hide (chunkCut_store H0.out hv2.out KF.out (Nat.le_refl _) (.int .i64 (q.st : Nat)) (.int .i64 (q.size : Nat)) (.int .i64 (q.digits : Nat)) (.int .i64 (q.left : Nat)) (.string (bs q.body)) (.string (bs q.line)) (.int .i64 (q.lines : Nat)) (.int .i64 (q.status : Nat)))⟩)
  case rest =>
    obtain ⟨z, rfl, hcut⟩ := hcut
    rename World => w1
    obtain ⟨hp, hk, hne⟩ := hcut.out
    have z0 : w1.cell? ⟨z, 0, none⟩ = some (.int .i64 (q.st : Nat)) := hk.cell 0
    have z1 : w1.cell? ⟨z, 1, none⟩ = some (.int .i64 (q.size : Nat)) := hk.cell 1
    have z2 : w1.cell? ⟨z, 2, none⟩ = some (.int .i64 (q.digits : Nat)) := hk.cell 2
    have z3 : w1.cell? ⟨z, 3, none⟩ = some (.int .i64 (q.left : Nat)) := hk.cell 3
    have z4 : w1.cell? ⟨z, 4, none⟩ = some (.string (bs q.body)) := hk.cell 4
    have z5 : w1.cell? ⟨z, 5, none⟩ = some (.string (bs q.line)) := hk.cell 5
    have z6 : w1.cell? ⟨z, 6, none⟩ = some (.int .i64 (q.lines : Nat)) := hk.cell 6
    have z7 : w1.cell? ⟨z, 7, none⟩ = some (.int .i64 (q.status : Nat)) := hk.cell 7
    have x0 : w1.cell? ⟨g, 7, none⟩ = some (.int .i64 (p.chunks.st : Nat)) := hp.blk.cell 7
    have f0 := hp.blk.frozen 7
    have x1 : w1.cell? ⟨g, 8, none⟩ = some (.int .i64 (p.chunks.size : Nat)) := hp.blk.cell 8
    have f1 := hp.blk.frozen 8
    have x2 : w1.cell? ⟨g, 9, none⟩ = some (.int .i64 (p.chunks.digits : Nat)) := hp.blk.cell 9
    have f2 := hp.blk.frozen 9
    have x3 : w1.cell? ⟨g, 10, none⟩ = some (.int .i64 (p.chunks.left : Nat)) := hp.blk.cell 10
    have f3 := hp.blk.frozen 10
    have x4 : w1.cell? ⟨g, 11, none⟩ = some (.string (bs p.chunks.body)) := hp.blk.cell 11
    have f4 := hp.blk.frozen 11
    have x5 : w1.cell? ⟨g, 12, none⟩ = some (.string (bs p.chunks.line)) := hp.blk.cell 12
    have f5 := hp.blk.frozen 12
    have x6 : w1.cell? ⟨g, 13, none⟩ = some (.int .i64 (p.chunks.lines : Nat)) := hp.blk.cell 13
    have f6 := hp.blk.frozen 13
    have x7 : w1.cell? ⟨g, 14, none⟩ = some (.int .i64 (p.chunks.status : Nat)) := hp.blk.cell 14
    have f7 := hp.blk.frozen 14
    have x15 : w1.cell? ⟨g, 15, none⟩ = some (.bool p.over) := hp.blk.cell 15
    have f15 := hp.blk.frozen 15
    have ne1 : ¬ z = g := hne
    have ne2 : ¬ g = z := fun e => hne e.symm
    have h2 := hp.chunk q
    have H2 := Lib.hid (And.intro h2 h2.over)
    clear hp hk hne hcut h2 CF S1 H0 HG CV0 CV1 HD0 DA DB DC FB FC m1 m2 m3 m4
    by_cases s8 : q.st = 8
    · have HST := Lib.hid (HST.out.trans (if_pos s8))
      have e1 : ((q.st : Int) == 8) = true := by rw [beq_iff_eq]; omega
      have CX := Lib.hid (pFailZ q.status (q.status : Int) rfl ⟨A, c, O, oc, X, H2.out.2⟩ (by omega) hn)
      clear s8
      go_wp2_with fail
      (with_reducible refine (CX.out).mono ?_); rintro e w5 ⟨rfl, h5⟩
      go_wp2_with fail
      go_end0
      rw [HST.out]
      exact ⟨rfl, h5⟩
    · have HST := Lib.hid (HST.out.trans (if_neg s8))
      have e1 : ((q.st : Int) == 8) = false := by rw [beq_eq_false_iff_ne]; omega
      clear s8
      by_cases s7 : q.st = 7
      · have HST := Lib.hid (HST.out.trans (if_pos s7))
        have e2 : ((q.st : Int) == 7) = true := by rw [beq_iff_eq]; omega
        have CX := Lib.hid (pDone q.body ⟨A, c, O, oc, X, H2.out.1⟩ (by omega) hn)
        clear s7
        go_wp2_with fail
        (with_reducible refine (CX.out).mono ?_); rintro e w5 ⟨rfl, h5⟩
        go_wp2_with fail
        go_end0
        rw [HST.out]
        exact ⟨rfl, h5⟩
      · have HST := Lib.hid (HST.out.trans (if_neg s7))
        have e2 : ((q.st : Int) == 7) = false := by rw [beq_eq_false_iff_ne]; omega
        clear s7
        go_wp2_with fail
        go_end0
        rw [HST.out, List.append_nil]
        exact ⟨rfl, A, c, O, oc, X, H2.out.1⟩
end Go.Proofs.YtencphfhpnljlaaGreatDoor
