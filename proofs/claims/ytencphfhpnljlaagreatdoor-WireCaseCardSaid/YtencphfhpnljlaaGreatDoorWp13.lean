/-
  wire: Feed of a new parser, All.
-/
import Derived.Test.YtencphfhpnljlaaGreatDoorWp11
import Derived.Test.YtencphfhpnljlaaGreatDoorWp12
namespace Go.Proofs.YtencphfhpnljlaaGreatDoor
open Go.RowKit

set_option maxRecDepth 100000 in
theorem blk_store15 {w : World} {g : Nat} {T : TypeId} {z0 z1 z2 z3 z4 z5 z6 z7 z8 z9 z10 z11 z12 z13 z14 : Value} (h : Blk w g T #[z0, z1, z2, z3, z4, z5, z6, z7, z8, z9, z10, z11, z12, z13, z14]) (v0 v1 v2 v3 v4 v5 v6 v7 v8 v9 v10 v11 v12 v13 v14 : Value) : Blk (((((((((((((((w.setCell ⟨g, 0, none⟩ v0).setCell ⟨g, 1, none⟩ v1).setCell ⟨g, 2, none⟩ v2).setCell ⟨g, 3, none⟩ v3).setCell ⟨g, 4, none⟩ v4).setCell ⟨g, 5, none⟩ v5).setCell ⟨g, 6, none⟩ v6).setCell ⟨g, 7, none⟩ v7).setCell ⟨g, 8, none⟩ v8).setCell ⟨g, 9, none⟩ v9).setCell ⟨g, 10, none⟩ v10).setCell ⟨g, 11, none⟩ v11).setCell ⟨g, 12, none⟩ v12).setCell ⟨g, 13, none⟩ v13).setCell ⟨g, 14, none⟩ v14) g T #[v0, v1, v2, v3, v4, v5, v6, v7, v8, v9, v10, v11, v12, v13, v14] := by
  have b := (((((((((((((((h.set_ 0 v0).set_ 1 v1).set_ 2 v2).set_ 3 v3).set_ 4 v4).set_ 5 v5).set_ 6 v6).set_ 7 v7).set_ 8 v8).set_ 9 v9).set_ 10 v10).set_ 11 v11).set_ 12 v12).set_ 13 v13).set_ 14 v14)
  have e : ((((((((((((((((#[z0, z1, z2, z3, z4, z5, z6, z7, z8, z9, z10, z11, z12, z13, z14] : Array Value).setIfInBounds 0 v0).setIfInBounds 1 v1).setIfInBounds 2 v2).setIfInBounds 3 v3).setIfInBounds 4 v4).setIfInBounds 5 v5).setIfInBounds 6 v6).setIfInBounds 7 v7).setIfInBounds 8 v8).setIfInBounds 9 v9).setIfInBounds 10 v10).setIfInBounds 11 v11).setIfInBounds 12 v12).setIfInBounds 13 v13).setIfInBounds 14 v14) = #[v0, v1, v2, v3, v4, v5, v6, v7, v8, v9, v10, v11, v12, v13, v14] := by simp
  rw [e] at b
  exact b
theorem only_store15 (w : World) (g : Nat) (v0 v1 v2 v3 v4 v5 v6 v7 v8 v9 v10 v11 v12 v13 v14 : Value) : w.grownBy (((((((((((((((w.setCell ⟨g, 0, none⟩ v0).setCell ⟨g, 1, none⟩ v1).setCell ⟨g, 2, none⟩ v2).setCell ⟨g, 3, none⟩ v3).setCell ⟨g, 4, none⟩ v4).setCell ⟨g, 5, none⟩ v5).setCell ⟨g, 6, none⟩ v6).setCell ⟨g, 7, none⟩ v7).setCell ⟨g, 8, none⟩ v8).setCell ⟨g, 9, none⟩ v9).setCell ⟨g, 10, none⟩ v10).setCell ⟨g, 11, none⟩ v11).setCell ⟨g, 12, none⟩ v12).setCell ⟨g, 13, none⟩ v13).setCell ⟨g, 14, none⟩ v14) (some g) := (Lib.grownBy_setB (Lib.grownBy_setB (Lib.grownBy_setB (Lib.grownBy_setB (Lib.grownBy_setB (Lib.grownBy_setB (Lib.grownBy_setB (Lib.grownBy_setB (Lib.grownBy_setB (Lib.grownBy_setB (Lib.grownBy_setB (Lib.grownBy_setB (Lib.grownBy_setB (Lib.grownBy_setB (Lib.grownBy_setB (World.grownBy.refl w (some g)) 0 v0) 1 v1) 2 v2) 3 v3) 4 v4) 5 v5) 6 v6) 7 v7) 8 v8) 9 v9) 10 v10) 11 v11) 12 v12) 13 v13) 14 v14)
/-- a parser as a value -/
def wireV (p : WireP) (A : Option Addr) (c : Nat) : Array Value := #[.int .i64 (p.at_ : Nat), .string (bs p.text), .string (bs p.meth), .string (bs p.tgt), .slice A p.flds.length c, .string (bs p.body), .int .i64 (p.left : Nat), .int .i64 (p.chunks.st : Nat), .int .i64 (p.chunks.size : Nat), .int .i64 (p.chunks.digits : Nat), .int .i64 (p.chunks.left : Nat), .string (bs p.chunks.body), .string (bs p.chunks.line), .int .i64 (p.chunks.lines : Nat), .int .i64 (p.chunks.status : Nat)]
def FeedPost (p : WireP) (evs : List EvP) (w : World) (e : Ending) (w' : World) : Prop :=
  ∃ A c O oc X, e = .returned (.tuple #[.agg (wireV p A c), .slice O X.length oc, .int .i64 0]) ∧ X.map (·.1) = evs ∧ Reads w' w'.heap.size 6 O X.length (evsC X) ∧ HeldE w' 0 X ∧ w'.ownsRow 0 49 2 (.slice A p.flds.length c) p.flds.length (fldsC p.flds) ∧ Below w.heap.size w w'
theorem feedW_snoc (p : WireP) (l : List UInt8) (b : UInt8) : feedW p (l ++ [b]) = ((stepW (feedW p l).1 b).1, (feedW p l).2 ++ (stepW (feedW p l).1 b).2) := by
  rw [feedW_app]; simp [feedW]
theorem okW_feed : ∀ (l : List UInt8) (M : Nat) (p : WireP), OkW M p → OkW (M + l.length) (feedW p l).1
  | [], M, p, h => h
  | b :: l, M, p, h => by
    have := okW_feed l (M + 1) (stepW p b).1 (okW_step h b)
    rw [List.length_cons, show M + (l.length + 1) = M + 1 + l.length by omega]
    exact this
theorem events_feed : ∀ (l : List UInt8) (p : WireP), (feedW p l).2.length ≤ 2 * l.length
  | [], p => by simp [feedW]
  | b :: l, p => by
    have h1 := events_le p b
    have h2 := events_feed l (stepW p b).1
    rw [feedW, List.length_append, List.length_cons]
    omega
set_option maxRecDepth 100000 in
set_option maxHeartbeats 16000000 in
theorem pFeedNew (S : List UInt8) (w : World) (hs : S.length ≤ 300000) (hT : TabW w) :
    Calls Tryz.prog 9 #[newV, .string (bs S)] w (FeedPost (feedW newW S).1 (feedW newW S).2 w) := by
  have hx : newV = .agg #[.int .i64 1, .string ⟨#[]⟩, .string ⟨#[]⟩, .string ⟨#[]⟩, .slice none 0 0, .string ⟨#[]⟩, .int .i64 0, .int .i64 0, .int .i64 0, .int .i64 0, .int .i64 0, .string ⟨#[]⟩, .string ⟨#[]⟩, .int .i64 0, .int .i64 0] := rfl
  have b2 : Below w.heap.size w ((w.alloc (.cells #[.int .i64 1, .string ⟨#[]⟩, .string ⟨#[]⟩, .string ⟨#[]⟩, .slice none 0 0, .string ⟨#[]⟩, .int .i64 0, .int .i64 0, .int .i64 0, .int .i64 0, .int .i64 0, .string ⟨#[]⟩, .string ⟨#[]⟩, .int .i64 0, .int .i64 0] 34)).alloc (.cells #[.int .i64 0, .string ⟨#[]⟩, .string ⟨#[]⟩, .string ⟨#[]⟩, .slice none 0 0, .string ⟨#[]⟩, .int .i64 0, .int .i64 0, .int .i64 0, .int .i64 0, .int .i64 0, .string ⟨#[]⟩, .string ⟨#[]⟩, .int .i64 0, .int .i64 0] 34)) := ((Below.refl _ _).alloc (Nat.le_refl _) _).alloc (by simp) _
  have k0 := (Blk.new w 34 #[.int .i64 1, .string ⟨#[]⟩, .string ⟨#[]⟩, .string ⟨#[]⟩, .slice none 0 0, .string ⟨#[]⟩, .int .i64 0, .int .i64 0, .int .i64 0, .int .i64 0, .int .i64 0, .string ⟨#[]⟩, .string ⟨#[]⟩, .int .i64 0, .int .i64 0]).alloc (.cells #[.int .i64 0, .string ⟨#[]⟩, .string ⟨#[]⟩, .string ⟨#[]⟩, .slice none 0 0, .string ⟨#[]⟩, .int .i64 0, .int .i64 0, .int .i64 0, .int .i64 0, .int .i64 0, .string ⟨#[]⟩, .string ⟨#[]⟩, .int .i64 0, .int .i64 0] 34)
  have k1 := Blk.new (w.alloc (.cells #[.int .i64 1, .string ⟨#[]⟩, .string ⟨#[]⟩, .string ⟨#[]⟩, .slice none 0 0, .string ⟨#[]⟩, .int .i64 0, .int .i64 0, .int .i64 0, .int .i64 0, .int .i64 0, .string ⟨#[]⟩, .string ⟨#[]⟩, .int .i64 0, .int .i64 0] 34)) 34 #[.int .i64 0, .string ⟨#[]⟩, .string ⟨#[]⟩, .string ⟨#[]⟩, .slice none 0 0, .string ⟨#[]⟩, .int .i64 0, .int .i64 0, .int .i64 0, .int .i64 0, .int .i64 0, .string ⟨#[]⟩, .string ⟨#[]⟩, .int .i64 0, .int .i64 0]
  rw [show (w.alloc (.cells #[.int .i64 1, .string ⟨#[]⟩, .string ⟨#[]⟩, .string ⟨#[]⟩, .slice none 0 0, .string ⟨#[]⟩, .int .i64 0, .int .i64 0, .int .i64 0, .int .i64 0, .int .i64 0, .string ⟨#[]⟩, .string ⟨#[]⟩, .int .i64 0, .int .i64 0] 34)).heap.size = w.heap.size + 1 by simp] at k1
  obtain ⟨W2, hW2⟩ : ∃ W2, ((w.alloc (.cells #[.int .i64 1, .string ⟨#[]⟩, .string ⟨#[]⟩, .string ⟨#[]⟩, .slice none 0 0, .string ⟨#[]⟩, .int .i64 0, .int .i64 0, .int .i64 0, .int .i64 0, .int .i64 0, .string ⟨#[]⟩, .string ⟨#[]⟩, .int .i64 0, .int .i64 0] 34)).alloc (.cells #[.int .i64 0, .string ⟨#[]⟩, .string ⟨#[]⟩, .string ⟨#[]⟩, .slice none 0 0, .string ⟨#[]⟩, .int .i64 0, .int .i64 0, .int .i64 0, .int .i64 0, .int .i64 0, .string ⟨#[]⟩, .string ⟨#[]⟩, .int .i64 0, .int .i64 0] 34)) = W2 := ⟨_, rfl⟩
  rw [hW2] at b2 k0 k1
  have CK := Lib.hid (pCheckNew W2 (hT.below b2).m)
  have a0 : W2.cell? ⟨w.heap.size, 0, none⟩ = some (.int .i64 1) := k0.cell 0
  have a1 : W2.cell? ⟨w.heap.size, 1, none⟩ = some (.string ⟨#[]⟩) := k0.cell 1
  have a2 : W2.cell? ⟨w.heap.size, 2, none⟩ = some (.string ⟨#[]⟩) := k0.cell 2
  have a3 : W2.cell? ⟨w.heap.size, 3, none⟩ = some (.string ⟨#[]⟩) := k0.cell 3
  have a4 : W2.cell? ⟨w.heap.size, 4, none⟩ = some (.slice none 0 0) := k0.cell 4
  have a5 : W2.cell? ⟨w.heap.size, 5, none⟩ = some (.string ⟨#[]⟩) := k0.cell 5
  have a6 : W2.cell? ⟨w.heap.size, 6, none⟩ = some (.int .i64 0) := k0.cell 6
  have a7 : W2.cell? ⟨w.heap.size, 7, none⟩ = some (.int .i64 0) := k0.cell 7
  have a8 : W2.cell? ⟨w.heap.size, 8, none⟩ = some (.int .i64 0) := k0.cell 8
  have a9 : W2.cell? ⟨w.heap.size, 9, none⟩ = some (.int .i64 0) := k0.cell 9
  have a10 : W2.cell? ⟨w.heap.size, 10, none⟩ = some (.int .i64 0) := k0.cell 10
  have a11 : W2.cell? ⟨w.heap.size, 11, none⟩ = some (.string ⟨#[]⟩) := k0.cell 11
  have a12 : W2.cell? ⟨w.heap.size, 12, none⟩ = some (.string ⟨#[]⟩) := k0.cell 12
  have a13 : W2.cell? ⟨w.heap.size, 13, none⟩ = some (.int .i64 0) := k0.cell 13
  have a14 : W2.cell? ⟨w.heap.size, 14, none⟩ = some (.int .i64 0) := k0.cell 14
  rw [hx] at CK ⊢
  have K2 := Lib.hid (And.intro b2 (And.intro k0 k1))
  have HT := Lib.hid hT
  clear b2 k0 k1 hT hx
  go_enter Tryz.func9, Tryz.ntmps9
  go_wp2_with fail
  (with_reducible refine (CK.out).mono ?_); rintro e w3 ⟨rfl, g3⟩
  have b3 := K2.out.1.trans (g3.mono K2.out.1.size)
  have k0 := K2.out.2.1.below g3 K2.out.2.1.lt
  have k1 := K2.out.2.2.below g3 K2.out.2.2.lt
  have d0 : w3.cell? ⟨w.heap.size, 0, none⟩ = some (.int .i64 1) := k0.cell 0
  have d1 : w3.cell? ⟨w.heap.size, 1, none⟩ = some (.string ⟨#[]⟩) := k0.cell 1
  have d2 : w3.cell? ⟨w.heap.size, 2, none⟩ = some (.string ⟨#[]⟩) := k0.cell 2
  have d3 : w3.cell? ⟨w.heap.size, 3, none⟩ = some (.string ⟨#[]⟩) := k0.cell 3
  have d4 : w3.cell? ⟨w.heap.size, 4, none⟩ = some (.slice none 0 0) := k0.cell 4
  have d5 : w3.cell? ⟨w.heap.size, 5, none⟩ = some (.string ⟨#[]⟩) := k0.cell 5
  have d6 : w3.cell? ⟨w.heap.size, 6, none⟩ = some (.int .i64 0) := k0.cell 6
  have d7 : w3.cell? ⟨w.heap.size, 7, none⟩ = some (.int .i64 0) := k0.cell 7
  have d8 : w3.cell? ⟨w.heap.size, 8, none⟩ = some (.int .i64 0) := k0.cell 8
  have d9 : w3.cell? ⟨w.heap.size, 9, none⟩ = some (.int .i64 0) := k0.cell 9
  have d10 : w3.cell? ⟨w.heap.size, 10, none⟩ = some (.int .i64 0) := k0.cell 10
  have d11 : w3.cell? ⟨w.heap.size, 11, none⟩ = some (.string ⟨#[]⟩) := k0.cell 11
  have d12 : w3.cell? ⟨w.heap.size, 12, none⟩ = some (.string ⟨#[]⟩) := k0.cell 12
  have d13 : w3.cell? ⟨w.heap.size, 13, none⟩ = some (.int .i64 0) := k0.cell 13
  have d14 : w3.cell? ⟨w.heap.size, 14, none⟩ = some (.int .i64 0) := k0.cell 14
  have b4 := b3.alloc b3.size (.cells #[.int .i64 1, .string ⟨#[]⟩, .string ⟨#[]⟩, .string ⟨#[]⟩, .slice none 0 0, .string ⟨#[]⟩, .int .i64 0, .int .i64 0, .int .i64 0, .int .i64 0, .int .i64 0, .string ⟨#[]⟩, .string ⟨#[]⟩, .int .i64 0, .int .i64 0, .bool false, .slice none 0 0] 72)
  have kp := Blk.new w3 72 #[.int .i64 1, .string ⟨#[]⟩, .string ⟨#[]⟩, .string ⟨#[]⟩, .slice none 0 0, .string ⟨#[]⟩, .int .i64 0, .int .i64 0, .int .i64 0, .int .i64 0, .int .i64 0, .string ⟨#[]⟩, .string ⟨#[]⟩, .int .i64 0, .int .i64 0, .bool false, .slice none 0 0]
  have k1 := k1.alloc (.cells #[.int .i64 1, .string ⟨#[]⟩, .string ⟨#[]⟩, .string ⟨#[]⟩, .slice none 0 0, .string ⟨#[]⟩, .int .i64 0, .int .i64 0, .int .i64 0, .int .i64 0, .int .i64 0, .string ⟨#[]⟩, .string ⟨#[]⟩, .int .i64 0, .int .i64 0, .bool false, .slice none 0 0] 72)
  have cF := pFieldsW w3.heap.size none 0 0 [] (w3.alloc (.cells #[.int .i64 1, .string ⟨#[]⟩, .string ⟨#[]⟩, .string ⟨#[]⟩, .slice none 0 0, .string ⟨#[]⟩, .int .i64 0, .int .i64 0, .int .i64 0, .int .i64 0, .int .i64 0, .string ⟨#[]⟩, .string ⟨#[]⟩, .int .i64 0, .int .i64 0, .bool false, .slice none 0 0] 72)) (kp.cell 4) kp.lt Reads.none_ (by omega)
  have CF := Lib.hid cF
  have K4 := Lib.hid (And.intro b4 (And.intro kp (And.intro k1 b3.size)))
  clear b3 k0 k1 b4 kp cF CK K2 g3
  clear a0
  clear a1
  clear a2
  clear a3
  clear a4
  clear a5
  clear a6
  clear a7
  clear a8
  clear a9
  clear a10
  clear a11
  clear a12
  clear a13
  clear a14
  go_wp2_with fail
  (with_reducible refine (CF.out).mono ?_); rintro e w5 ⟨B, d, rfl, ho, g5⟩
  obtain ⟨b4, kp, k1, hgw⟩ := K4.out
  have b5 := b4.trans (g5.mono b4.size)
  have kp := kp.below g5 kp.lt
  have k1 := k1.below g5 k1.lt
  have c4 : w5.cell? ⟨w3.heap.size, 4, none⟩ = some (.slice none 0 0) := kp.cell 4
  have f4 := kp.frozen 4
  have hset := Lib.grownBy_setB (World.grownBy.refl w5 (some w3.heap.size)) 4 (.slice B 0 d)
  have kp6 := kp.set_ 4 (.slice B 0 d)
  have o6 := own_leW (own_only ho kp (by decide) hset) (Nat.zero_le _)
  have hne1 : w.heap.size + 1 ≠ w3.heap.size := by have := K4.out.2.2.1.lt; simp at this; have h2 := k1.ne_ kp (by decide); exact h2
  have k6 := k1.far (p := ⟨w3.heap.size, 4, none⟩) hne1 (.slice B 0 d)
  have b6 := b5.setCell (p := ⟨w3.heap.size, 4, none⟩) hgw (.slice B 0 d)
  obtain ⟨cap, W7, hcv, b7, hlt7, hbytes, _⟩ := bytes_of_string (P := Tryz.prog) 9 50 5 Tryz.underlying9 Tryz.underlying50 Tryz.underlying5 (w5.setCell ⟨w3.heap.size, 4, none⟩ (.slice B 0 d)) (bs S)
  have hsz6 : (w5.setCell ⟨w3.heap.size, 4, none⟩ (.slice B 0 d)).heap.size = w5.heap.size := by simp [World.setCell]
  rw [hsz6] at hcv b7 hlt7 hbytes
  have kp7 := kp6.below (by rw [hsz6]; exact b7) kp6.lt
  have hE : (#[.int .i64 1, .string ⟨#[]⟩, .string ⟨#[]⟩, .string ⟨#[]⟩, .slice none 0 0, .string ⟨#[]⟩, .int .i64 0, .int .i64 0, .int .i64 0, .int .i64 0, .int .i64 0, .string ⟨#[]⟩, .string ⟨#[]⟩, .int .i64 0, .int .i64 0, .bool false, .slice none 0 0] : Array Value).setIfInBounds 4 (.slice B 0 d) = wpV newW (.slice B 0 d) (.slice none 0 0) := by simp [wpV, wpA, newW, zeroC, bs]
  rw [hE] at kp7
  have hp7 : ParW W7 W7 w3.heap.size newW [] B d none 0 [] := ⟨kp7, own_below o6 (by rw [hsz6]; exact b7), World.ownsRow_nil _ _ _ _, (fun x hx => by cases hx), rfl, World.grownBy.refl _ _⟩
  have b8 := b6.trans (by have := b7.mono (show w.heap.size ≤ w5.heap.size from b5.size); exact this)
  have k7 := k6.below (by rw [hsz6]; exact b7) k6.lt
  have hgl : w3.heap.size < w5.heap.size := by have := kp.lt; exact this
  have zs := bs_size S
  rw [zs] at hcv
  have HP := Lib.hid hp7
  have HB8 := Lib.hid (And.intro b8 (And.intro k7 (And.intro hbytes (And.intro hgw hgl))))
  have hTV : ∀ V, W7.grownBy V (some w3.heap.size) → TabW V := fun V hV => HT.out.below (HB8.out.1.grown hV HB8.out.1.size (fun k e => by cases e; exact hgw))
  have HTV := Lib.hid hTV
  clear b4 kp k1 hgw b5 hset kp6 o6 hne1 k6 b6 b7 hlt7 hbytes hsz6 kp7 hE hp7 b8 k7 hgl ho g5 CF K4 hTV
  clear d0
  clear d1
  clear d2
  clear d3
  clear d4
  clear d5
  clear d6
  clear d7
  clear d8
  clear d9
  clear d10
  clear d11
  clear d12
  clear d13
  clear d14
  go_wp2_with fail
  go_loopw [36] (fun i wr => ∃ k : Nat, i = .int .i64 k ∧ k ≤ S.length ∧ Hid (ParS W7 wr w3.heap.size (feedW newW (S.take k)).1 (feedW newW (S.take k)).2)) (fun i _ => S.length - (intOf i).toNat)
  case atStart => exact ⟨0, rfl, by omega, hide ⟨B, d, none, 0, [], HP.out⟩⟩
  case round =>
    obtain ⟨k, rfl, hk, hPk⟩ := hrel
    rename World => wr
    by_cases hlt : k < S.length
    · obtain ⟨A, c, O, oc, X, hpw⟩ := hPk.out
      have hcell := HB8.out.2.2.1 k (by rw [zs]; exact hlt)
      obtain ⟨x, hx⟩ : ∃ x, S[k] = x := ⟨_, rfl⟩
      have hbx : (bs S)[k]'(by rw [zs]; exact hlt) = x := by rw [← hx]; rfl
      rw [hbx] at hcell
      have c1 : wr.cell? ⟨w5.heap.size, k, none⟩ = some (.int .u8 (x.toNat : Int)) := hpw.only.cell hcell (by intro e; injection e with e; have := HB8.out.2.2.2.2; have e : w5.heap.size = w3.heap.size := e; omega)
      have okk := okW_feed (S.take k) 0 newW (okW_new 1 0 (.inl rfl))
      have evk := events_feed (S.take k) newW
      have hlk : (S.take k).length = k := by rw [List.length_take]; omega
      rw [hlk] at okk evk
      have CT := Lib.hid (pTakeW x ⟨A, c, O, oc, X, hpw⟩ okk (by omega) (by omega) HTV.out)
      have htk : S.take (k + 1) = S.take k ++ [x] := by rw [List.take_succ_eq_append_getElem hlt, hx]
      have hsn := feedW_snoc newW (S.take k) x
      rw [← htk] at hsn
      have HSN := Lib.hid hsn
      have i0 : (0 : Int) ≤ (k : Int) := by omega
      have i1 : (k : Int) < (S.length : Int) := by omega
      clear hcell hbx okk evk hlk htk hsn hpw hPk hx
      go_wp2_with fail
      (with_reducible refine (CT.out).mono ?_); rintro e w8 ⟨rfl, h8⟩
      have H8 := Lib.hid h8
      clear h8
      go_wp2_with fail
      go_roundw
      case rel => exact ⟨k + 1, by go_num, by omega, hide (by rw [HSN.out]; exact H8.out)⟩
      case measure => simp [intOf]; omega
    · obtain rfl : k = S.length := by omega
      have hPk := hPk.out
      rw [List.take_length] at hPk
      obtain ⟨A, c, O, oc, X, hpw⟩ := hPk
      obtain ⟨p, hp⟩ : ∃ p, (feedW newW S).1 = p := ⟨_, rfl⟩
      rw [hp] at hpw
      have HPE := Lib.hid hp
      have k9 : Blk wr (w.heap.size + 1) 34 #[.int .i64 0, .string ⟨#[]⟩, .string ⟨#[]⟩, .string ⟨#[]⟩, .slice none 0 0, .string ⟨#[]⟩, .int .i64 0, .int .i64 0, .int .i64 0, .int .i64 0, .int .i64 0, .string ⟨#[]⟩, .string ⟨#[]⟩, .int .i64 0, .int .i64 0] := HB8.out.2.1.grown hpw.only (by intro e; injection e with e; have h1 := HB8.out.2.1; have h2 := HP.out.blk; exact absurd e (h1.ne_ h2 (by decide)))
      have hd : decide ((S.length : Int) < (S.length : Int)) = false := by simp
      have x0 : wr.cell? ⟨w3.heap.size, 0, none⟩ = some (.int .i64 (p.at_ : Nat)) := hpw.blk.cell 0
      have x1 : wr.cell? ⟨w3.heap.size, 1, none⟩ = some (.string (bs p.text)) := hpw.blk.cell 1
      have x2 : wr.cell? ⟨w3.heap.size, 2, none⟩ = some (.string (bs p.meth)) := hpw.blk.cell 2
      have x3 : wr.cell? ⟨w3.heap.size, 3, none⟩ = some (.string (bs p.tgt)) := hpw.blk.cell 3
      have x4 : wr.cell? ⟨w3.heap.size, 4, none⟩ = some (.slice A p.flds.length c) := hpw.blk.cell 4
      have x5 : wr.cell? ⟨w3.heap.size, 5, none⟩ = some (.string (bs p.body)) := hpw.blk.cell 5
      have x6 : wr.cell? ⟨w3.heap.size, 6, none⟩ = some (.int .i64 (p.left : Nat)) := hpw.blk.cell 6
      have x7 : wr.cell? ⟨w3.heap.size, 7, none⟩ = some (.int .i64 (p.chunks.st : Nat)) := hpw.blk.cell 7
      have x8 : wr.cell? ⟨w3.heap.size, 8, none⟩ = some (.int .i64 (p.chunks.size : Nat)) := hpw.blk.cell 8
      have x9 : wr.cell? ⟨w3.heap.size, 9, none⟩ = some (.int .i64 (p.chunks.digits : Nat)) := hpw.blk.cell 9
      have x10 : wr.cell? ⟨w3.heap.size, 10, none⟩ = some (.int .i64 (p.chunks.left : Nat)) := hpw.blk.cell 10
      have x11 : wr.cell? ⟨w3.heap.size, 11, none⟩ = some (.string (bs p.chunks.body)) := hpw.blk.cell 11
      have x12 : wr.cell? ⟨w3.heap.size, 12, none⟩ = some (.string (bs p.chunks.line)) := hpw.blk.cell 12
      have x13 : wr.cell? ⟨w3.heap.size, 13, none⟩ = some (.int .i64 (p.chunks.lines : Nat)) := hpw.blk.cell 13
      have x14 : wr.cell? ⟨w3.heap.size, 14, none⟩ = some (.int .i64 (p.chunks.status : Nat)) := hpw.blk.cell 14
      have x16 : wr.cell? ⟨w3.heap.size, 16, none⟩ = some (.slice O X.length oc) := hpw.blk.cell 16
      have y0 : wr.cell? ⟨w.heap.size + 1, 0, none⟩ = some (.int .i64 0) := k9.cell 0
      have f0 := k9.frozen 0
      have y1 : wr.cell? ⟨w.heap.size + 1, 1, none⟩ = some (.string ⟨#[]⟩) := k9.cell 1
      have f1 := k9.frozen 1
      have y2 : wr.cell? ⟨w.heap.size + 1, 2, none⟩ = some (.string ⟨#[]⟩) := k9.cell 2
      have f2 := k9.frozen 2
      have y3 : wr.cell? ⟨w.heap.size + 1, 3, none⟩ = some (.string ⟨#[]⟩) := k9.cell 3
      have f3 := k9.frozen 3
      have y4 : wr.cell? ⟨w.heap.size + 1, 4, none⟩ = some (.slice none 0 0) := k9.cell 4
      have f4 := k9.frozen 4
      have y5 : wr.cell? ⟨w.heap.size + 1, 5, none⟩ = some (.string ⟨#[]⟩) := k9.cell 5
      have f5 := k9.frozen 5
      have y6 : wr.cell? ⟨w.heap.size + 1, 6, none⟩ = some (.int .i64 0) := k9.cell 6
      have f6 := k9.frozen 6
      have y7 : wr.cell? ⟨w.heap.size + 1, 7, none⟩ = some (.int .i64 0) := k9.cell 7
      have f7 := k9.frozen 7
      have y8 : wr.cell? ⟨w.heap.size + 1, 8, none⟩ = some (.int .i64 0) := k9.cell 8
      have f8 := k9.frozen 8
      have y9 : wr.cell? ⟨w.heap.size + 1, 9, none⟩ = some (.int .i64 0) := k9.cell 9
      have f9 := k9.frozen 9
      have y10 : wr.cell? ⟨w.heap.size + 1, 10, none⟩ = some (.int .i64 0) := k9.cell 10
      have f10 := k9.frozen 10
      have y11 : wr.cell? ⟨w.heap.size + 1, 11, none⟩ = some (.string ⟨#[]⟩) := k9.cell 11
      have f11 := k9.frozen 11
      have y12 : wr.cell? ⟨w.heap.size + 1, 12, none⟩ = some (.string ⟨#[]⟩) := k9.cell 12
      have f12 := k9.frozen 12
      have y13 : wr.cell? ⟨w.heap.size + 1, 13, none⟩ = some (.int .i64 0) := k9.cell 13
      have f13 := k9.frozen 13
      have y14 : wr.cell? ⟨w.heap.size + 1, 14, none⟩ = some (.int .i64 0) := k9.cell 14
      have f14 := k9.frozen 14
      have ne1 : ¬ w.heap.size + 1 = w3.heap.size := fun e => k9.ne_ hpw.blk (by decide) e
      have ne2 : ¬ w3.heap.size = w.heap.size + 1 := fun e => ne1 e.symm
      have hS := only_store15 wr (w.heap.size + 1) (.int .i64 (p.at_ : Nat)) (.string (bs p.text)) (.string (bs p.meth)) (.string (bs p.tgt)) (.slice A p.flds.length c) (.string (bs p.body)) (.int .i64 (p.left : Nat)) (.int .i64 (p.chunks.st : Nat)) (.int .i64 (p.chunks.size : Nat)) (.int .i64 (p.chunks.digits : Nat)) (.int .i64 (p.chunks.left : Nat)) (.string (bs p.chunks.body)) (.string (bs p.chunks.line)) (.int .i64 (p.chunks.lines : Nat)) (.int .i64 (p.chunks.status : Nat))
      have kF := (blk_store15 k9 (.int .i64 (p.at_ : Nat)) (.string (bs p.text)) (.string (bs p.meth)) (.string (bs p.tgt)) (.slice A p.flds.length c) (.string (bs p.body)) (.int .i64 (p.left : Nat)) (.int .i64 (p.chunks.st : Nat)) (.int .i64 (p.chunks.size : Nat)) (.int .i64 (p.chunks.digits : Nat)) (.int .i64 (p.chunks.left : Nat)) (.string (bs p.chunks.body)) (.string (bs p.chunks.line)) (.int .i64 (p.chunks.lines : Nat)) (.int .i64 (p.chunks.status : Nat))).drew
      have hB := ((HB8.out.1.grown hpw.only HB8.out.1.size (fun k e => by cases e; exact HB8.out.2.2.2.1)).grown hS (HB8.out.1.grown hpw.only HB8.out.1.size (fun k e => by cases e; exact HB8.out.2.2.2.1)).size (fun k e => by cases e; exact Nat.le_succ _)).drew
      have hO := Reads.of_own (own_below (own_only hpw.out k9 (by decide) hS) (Below.refl _ _).drew)
      have hH := (hpw.held.only k9 (by decide) hS).below (Below.refl _ _).drew
      have hF := own_below (own_only hpw.flds k9 (by decide) hS) (Below.refl _ _).drew
      have FIN := Lib.hid (And.intro kF (And.intro hB (And.intro hO (And.intro hH (And.intro hF hpw.evs)))))
      clear hS kF hB hO hH hF hpw k9 hp
      go_wp2_with fail
      go_region
      go_wp2_with fail
      refine bodyPost_ret (results_cell_row_tmq2 (p := 4) (u := 5) (v := 6) (ty := 34) (by kernel_rfl) _ _ (w.heap.size + 1) 34 (wireV p A c) (0, 0) _ rfl FIN.out.1 Tryz.underlying34 rfl (by kernel_rfl)) rfl ?_
      rw [HPE.out]
      exact ⟨A, c, O, oc, X, rfl, FIN.out.2.2.2.2.2, FIN.out.2.2.1, FIN.out.2.2.2.1, FIN.out.2.2.2.2.1, FIN.out.2.1⟩
end Go.Proofs.YtencphfhpnljlaaGreatDoor
