/-
  respond.Parse.
-/
import Derived.Test.YthhlnpfcpgfcfaaDoorRs8
import Derived.Deep.RegionHeld3
namespace Go.Proofs.YthhlnpfcpgfcfaaDoor
open Go.RowKit

/-- what a reading gives: the response and how many bytes it has; or where it fails -/
def parseA (h : Bool) (s : List UInt8) : Option (Rsp × Nat) × Nat :=
  match lineP (s.drop 0) with
  | none => (none, 0)
  | some x => match codeP x.1 with
    | none => (none, 0)
    | some c =>
      match lineP (s.drop (s.length - (fldsP 32 (s.drop (0 + x.1.length + 2))).2.length)) with
      | none => (none, s.length - (fldsP 32 (s.drop (0 + x.1.length + 2))).2.length)
      | some y => match lenP y.1 with
        | none => (none, s.length - (fldsP 32 (s.drop (0 + x.1.length + 2))).2.length)
        | some n =>
          if (endR s (s.length - (fldsP 32 (s.drop (0 + x.1.length + 2))).2.length + y.1.length + 2) false).2.2 = false then (none, (endR s (s.length - (fldsP 32 (s.drop (0 + x.1.length + 2))).2.length + y.1.length + 2) false).1)
          else if h then (some (⟨c, (fldsP 32 (s.drop (0 + x.1.length + 2))).1, [], (endR s (s.length - (fldsP 32 (s.drop (0 + x.1.length + 2))).2.length + y.1.length + 2) false).2.1, true⟩, (endR s (s.length - (fldsP 32 (s.drop (0 + x.1.length + 2))).2.length + y.1.length + 2) false).1), 0)
          else if s.length - (endR s (s.length - (fldsP 32 (s.drop (0 + x.1.length + 2))).2.length + y.1.length + 2) false).1 < n then (none, s.length)
          else (some (⟨c, (fldsP 32 (s.drop (0 + x.1.length + 2))).1, (s.drop (endR s (s.length - (fldsP 32 (s.drop (0 + x.1.length + 2))).2.length + y.1.length + 2) false).1).take n, (endR s (s.length - (fldsP 32 (s.drop (0 + x.1.length + 2))).2.length + y.1.length + 2) false).2.1, false⟩, (endR s (s.length - (fldsP 32 (s.drop (0 + x.1.length + 2))).2.length + y.1.length + 2) false).1 + n), 0)
def noRsp : Rsp := ⟨0, [], [], false, false⟩
def ParsePost (h : Bool) (s : List UInt8) (w : World) (e : Ending) (w' : World) : Prop :=
  match parseA h s with
  | (some (r, u), _) => ∃ A c, e = .returned (.tuple #[rspV r A r.flds.length c, .int .i64 (u : Int), .agg #[.int .i64 0, .int .i64 0]]) ∧ Reads w' w'.heap.size 2 A r.flds.length (fldsC r.flds) ∧ r.flds.length ≤ c ∧ Below w.heap.size w w'
  | (none, k) => e = .returned (.tuple #[rspV noRsp none 0 0, .int .i64 0, .agg #[.int .i64 3, .int .i64 (k : Int)]]) ∧ Below w.heap.size w w'
theorem results_cell_tmp_cell {fn : Func} {p t q : Tmp} {ty ty2 : TypeId} {P : Program} (h : fn.results = #[.cell p ty, .tmp t, .cell q ty2]) (tmps : Array Value) (w : World) (g g2 : Nat) (x y v : Value)
    (hp : tmps.getD p undef = .pointer (some ⟨g, 0, none⟩)) (hl : (loadVar ty ⟨g, 0, none⟩).run P w = .ok x w) (ht : tmps.getD t undef = v)
    (hp2 : tmps.getD q undef = .pointer (some ⟨g2, 0, none⟩)) (hl2 : (loadVar ty2 ⟨g2, 0, none⟩).run P w = .ok y w) :
    (results fn tmps).run P w = .ok (.tuple #[x, v, y]) w := by
  have hp' : tmps[p]?.getD undef = .pointer (some ⟨g, 0, none⟩) := by simpa using hp
  have hp2' : tmps[q]?.getD undef = .pointer (some ⟨g2, 0, none⟩) := by simpa using hp2
  have ht' : tmps[t]?.getD undef = v := by simpa using ht
  simp [results, h, hp', hp2', ht', asAddr, hl, hl2]
/-- a block of a response, written whole -/
theorem blk_set5 {w : World} {g : Nat} {t : TypeId} {a0 a1 a2 a3 a4 : Value} (h : Blk w g t #[a0, a1, a2, a3, a4]) (b0 b1 b2 b3 b4 : Value) :
    Blk (((((w.setCell ⟨g, 0, none⟩ b0).setCell ⟨g, 1, none⟩ b1).setCell ⟨g, 2, none⟩ b2).setCell ⟨g, 3, none⟩ b3).setCell ⟨g, 4, none⟩ b4) g t #[b0, b1, b2, b3, b4] := by
  have := ((((h.set_ 0 b0).set_ 1 b1).set_ 2 b2).set_ 3 b3).set_ 4 b4
  simpa using this
theorem blk_set2 {w : World} {g : Nat} {t : TypeId} {a0 a1 : Value} (h : Blk w g t #[a0, a1]) (b0 b1 : Value) :
    Blk ((w.setCell ⟨g, 0, none⟩ b0).setCell ⟨g, 1, none⟩ b1) g t #[b0, b1] := by
  have := (h.set_ 0 b0).set_ 1 b1
  simpa using this
theorem ld5 {W : World} {g : Nat} {cs : Array Value} (h : Blk W g 24 cs) (hc : cs.size = 5) : (loadVar 24 ⟨g, 0, none⟩).run Tryd.prog W = .ok (.agg cs) W :=
  run_loadVar_row W g 24 24 cs (0, 0) _ h Tryd.underlying24 rfl (by rw [hc]; kernel_rfl)
theorem ld2 {W : World} {g : Nat} {cs : Array Value} (h : Blk W g 33 cs) (hc : cs.size = 2) : (loadVar 33 ⟨g, 0, none⟩).run Tryd.prog W = .ok (.agg cs) W :=
  run_loadVar_row W g 33 33 cs (0, 0) _ h Tryd.underlying33 rfl (by rw [hc]; kernel_rfl)
/-- both results written, one behind the other -/
def chainW (W : World) (g k : Nat) (b0 b1 b2 b3 b4 d0 d1 : Value) : World := ((((((W.setCell ⟨g, 0, none⟩ b0).setCell ⟨g, 1, none⟩ b1).setCell ⟨g, 2, none⟩ b2).setCell ⟨g, 3, none⟩ b3).setCell ⟨g, 4, none⟩ b4).setCell ⟨k, 0, none⟩ d0).setCell ⟨k, 1, none⟩ d1
theorem fin_chain {W : World} {g k : Nat} {t u : TypeId} {a0 a1 a2 a3 a4 c0 c1 : Value} (h : Blk W g t #[a0, a1, a2, a3, a4]) (h2 : Blk W k u #[c0, c1]) (hne : g ≠ k) (b0 b1 b2 b3 b4 d0 d1 : Value) :
    Blk (((((((W.setCell ⟨g, 0, none⟩ b0).setCell ⟨g, 1, none⟩ b1).setCell ⟨g, 2, none⟩ b2).setCell ⟨g, 3, none⟩ b3).setCell ⟨g, 4, none⟩ b4).setCell ⟨k, 0, none⟩ d0).setCell ⟨k, 1, none⟩ d1).drew g t #[b0, b1, b2, b3, b4] ∧
    Blk (((((((W.setCell ⟨g, 0, none⟩ b0).setCell ⟨g, 1, none⟩ b1).setCell ⟨g, 2, none⟩ b2).setCell ⟨g, 3, none⟩ b3).setCell ⟨g, 4, none⟩ b4).setCell ⟨k, 0, none⟩ d0).setCell ⟨k, 1, none⟩ d1).drew k u #[d0, d1] ∧
    ∀ (B : Nat) (V : World), B ≤ g → B ≤ k → Below B V W → Below B V (((((((W.setCell ⟨g, 0, none⟩ b0).setCell ⟨g, 1, none⟩ b1).setCell ⟨g, 2, none⟩ b2).setCell ⟨g, 3, none⟩ b3).setCell ⟨g, 4, none⟩ b4).setCell ⟨k, 0, none⟩ d0).setCell ⟨k, 1, none⟩ d1).drew := by
  refine ⟨?_, ?_, fun B V h1 h3 hb => ?_⟩
  · exact ((((blk_set5 h b0 b1 b2 b3 b4).far (p := ⟨k, 0, none⟩) hne d0).far (p := ⟨k, 1, none⟩) hne d1)).drew
  · have hn : k ≠ g := hne.symm
    exact (blk_set2 (((((h2.far (p := ⟨g, 0, none⟩) hn b0).far (p := ⟨g, 1, none⟩) hn b1).far (p := ⟨g, 2, none⟩) hn b2).far (p := ⟨g, 3, none⟩) hn b3).far (p := ⟨g, 4, none⟩) hn b4) d0 d1).drew
  · exact (((((((hb.setCell (p := ⟨g, 0, none⟩) h1 b0).setCell (p := ⟨g, 1, none⟩) h1 b1).setCell (p := ⟨g, 2, none⟩) h1 b2).setCell (p := ⟨g, 3, none⟩) h1 b3).setCell (p := ⟨g, 4, none⟩) h1 b4).setCell (p := ⟨k, 0, none⟩) h3 d0).setCell (p := ⟨k, 1, none⟩) h3 d1).drew
theorem fin_chain0 {W : World} {g k : Nat} {t u : TypeId} {a0 a1 a2 a3 a4 c0 c1 : Value} (h : Blk W g t #[a0, a1, a2, a3, a4]) (h2 : Blk W k u #[c0, c1]) (hne : g ≠ k) (b0 b1 b2 b3 b4 d0 d1 : Value) :
    Blk (((((((W.setCell ⟨g, 0, none⟩ b0).setCell ⟨g, 1, none⟩ b1).setCell ⟨g, 2, none⟩ b2).setCell ⟨g, 3, none⟩ b3).setCell ⟨g, 4, none⟩ b4).setCell ⟨k, 0, none⟩ d0).setCell ⟨k, 1, none⟩ d1) g t #[b0, b1, b2, b3, b4] ∧
    Blk (((((((W.setCell ⟨g, 0, none⟩ b0).setCell ⟨g, 1, none⟩ b1).setCell ⟨g, 2, none⟩ b2).setCell ⟨g, 3, none⟩ b3).setCell ⟨g, 4, none⟩ b4).setCell ⟨k, 0, none⟩ d0).setCell ⟨k, 1, none⟩ d1) k u #[d0, d1] ∧
    ∀ (B : Nat) (V : World), B ≤ g → B ≤ k → Below B V W → Below B V (((((((W.setCell ⟨g, 0, none⟩ b0).setCell ⟨g, 1, none⟩ b1).setCell ⟨g, 2, none⟩ b2).setCell ⟨g, 3, none⟩ b3).setCell ⟨g, 4, none⟩ b4).setCell ⟨k, 0, none⟩ d0).setCell ⟨k, 1, none⟩ d1) := by
  refine ⟨?_, ?_, fun B V h1 h3 hb => ?_⟩
  · exact ((((blk_set5 h b0 b1 b2 b3 b4).far (p := ⟨k, 0, none⟩) hne d0).far (p := ⟨k, 1, none⟩) hne d1))
  · have hn : k ≠ g := hne.symm
    exact (blk_set2 (((((h2.far (p := ⟨g, 0, none⟩) hn b0).far (p := ⟨g, 1, none⟩) hn b1).far (p := ⟨g, 2, none⟩) hn b2).far (p := ⟨g, 3, none⟩) hn b3).far (p := ⟨g, 4, none⟩) hn b4) d0 d1)
  · exact (((((((hb.setCell (p := ⟨g, 0, none⟩) h1 b0).setCell (p := ⟨g, 1, none⟩) h1 b1).setCell (p := ⟨g, 2, none⟩) h1 b2).setCell (p := ⟨g, 3, none⟩) h1 b3).setCell (p := ⟨g, 4, none⟩) h1 b4).setCell (p := ⟨k, 0, none⟩) h3 d0).setCell (p := ⟨k, 1, none⟩) h3 d1)
theorem own_set {base e size n : Nat} {W : World} {v : Value} {xs : List Value} (ho : W.ownsRow base e size v n xs) (b i : Nat) (hb : b < base) (u : Value) : (W.setCell ⟨b, i, none⟩ u).ownsRow base e size v n xs :=
  ho.kept (Lib.grownBy_setB (World.grownBy.refl W (some b)) i u) (.inr fun e => by have := (ho.lt _ e).1; omega)
theorem own_chain {base e size n : Nat} {W : World} {v : Value} {xs : List Value} (ho : W.ownsRow base e size v n xs) (g k : Nat) (hg : g < base) (hk : k < base) (b0 b1 b2 b3 b4 d0 d1 : Value) :
    (((((((W.setCell ⟨g, 0, none⟩ b0).setCell ⟨g, 1, none⟩ b1).setCell ⟨g, 2, none⟩ b2).setCell ⟨g, 3, none⟩ b3).setCell ⟨g, 4, none⟩ b4).setCell ⟨k, 0, none⟩ d0).setCell ⟨k, 1, none⟩ d1).drew.ownsRow base e size v n xs :=
  own_drewN (own_set (own_set (own_set (own_set (own_set (own_set (own_set ho g 0 hg b0) g 1 hg b1) g 2 hg b2) g 3 hg b3) g 4 hg b4) k 0 hk d0) k 1 hk d1) 1
theorem first_len {s : List UInt8} {x : List UInt8 × List UInt8} (h : lineP (s.drop 0) = some x) : 0 + x.1.length + 2 ≤ s.length := by
  rcases lineP_cases (s.drop 0) with ⟨h1, _⟩ | ⟨l, r, h1, _, h3⟩
  · rw [h1] at h; cases h
  · rw [h1] at h
    injection h with h
    subst h
    exact (len_line h3).1
theorem second_len {s : List UInt8} {a : Nat} {x : List UInt8 × List UInt8} (h : lineP (s.drop a) = some x) : a + x.1.length + 2 ≤ s.length := by
  rcases lineP_cases (s.drop a) with ⟨h1, _⟩ | ⟨l, r, h1, _, h3⟩
  · rw [h1] at h; cases h
  · rw [h1] at h
    injection h with h
    subst h
    exact (len_line h3).1
theorem endR_le (s : List UInt8) (a : Nat) (close : Bool) (ha : a ≤ s.length) : (endR s a close).1 ≤ s.length := by
  unfold endR
  rcases lineP_cases (s.drop a) with ⟨h1, _⟩ | ⟨l, r, h1, _, h3⟩
  · rw [h1]; exact ha
  · rw [h1]
    simp only
    obtain ⟨hl, hd⟩ := len_line h3
    split
    · rcases lineP_cases r with ⟨q1, _⟩ | ⟨l2, r2, q1, _, q3⟩
      · rw [q1]; exact hl
      · rw [q1]
        simp only
        split
        · rename_i he
          have := (len_line (show s.drop (a + l.length + 2) = l2 ++ 13 :: 10 :: r2 by rw [hd]; exact q3)).1
          rw [he] at this
          simpa using this
        · exact hl
    · split
      · rename_i he
        rw [he] at hl
        simpa using hl
      · exact ha
set_option maxRecDepth 100000 in
set_option maxHeartbeats 16000000 in
theorem pParse (s : List UInt8) (h : Bool) (w : World) (hs : s.length ≤ 1000000) (ht : TabR w) (hm : MaxL w) (hE : Errs w) :
    Calls Tryd.prog 15 #[.string (bs s), .bool h] w (ParsePost h s w) := by
  have b0 : Below w.heap.size w ((w.alloc (.cells #[.int .i64 0, .slice none 0 0, .string ⟨#[]⟩, .bool false, .bool false] 24)).alloc (.cells #[.int .i64 0, .int .i64 0] 33)) := ((Below.refl _ _).alloc (Nat.le_refl _) _).alloc (by simp) _
  have k0 := (Blk.new w 24 #[.int .i64 0, .slice none 0 0, .string ⟨#[]⟩, .bool false, .bool false]).alloc (.cells #[.int .i64 0, .int .i64 0] 33)
  have k1 := Blk.new (w.alloc (.cells #[.int .i64 0, .slice none 0 0, .string ⟨#[]⟩, .bool false, .bool false] 24)) 33 #[.int .i64 0, .int .i64 0]
  rw [show (w.alloc (.cells #[.int .i64 0, .slice none 0 0, .string ⟨#[]⟩, .bool false, .bool false] 24)).heap.size = w.heap.size + 1 by simp] at k1
  have B0 := Lib.hid b0
  have K0 := Lib.hid k0
  have K1 := Lib.hid k1
  have HT := Lib.hid (ht.below b0)
  have HM := Lib.hid (hm.below b0)
  have HE := Lib.hid (hE.below b0)
  clear b0 k0 k1 ht hm hE
  have k2 : Blk ((((w.alloc (.cells #[.int .i64 0, .slice none 0 0, .string ⟨#[]⟩, .bool false, .bool false] 24)).alloc (.cells #[.int .i64 0, .int .i64 0] 33)).alloc (.cells #[.string (bs s), .int .i64 0, .int .i64 0, .slice none 0 0, .string ⟨#[]⟩, .bool false, .bool h] 95))) (w.heap.size + 1 + 1) 95 (rC s 0 0 (.slice none 0 0) ⟨#[]⟩ false h) := by
    have := Blk.new ((w.alloc (.cells #[.int .i64 0, .slice none 0 0, .string ⟨#[]⟩, .bool false, .bool false] 24)).alloc (.cells #[.int .i64 0, .int .i64 0] 33)) 95 #[.string (bs s), .int .i64 0, .int .i64 0, .slice none 0 0, .string ⟨#[]⟩, .bool false, .bool h]
    rw [show ((w.alloc (.cells #[.int .i64 0, .slice none 0 0, .string ⟨#[]⟩, .bool false, .bool false] 24)).alloc (.cells #[.int .i64 0, .int .i64 0] 33)).heap.size = w.heap.size + 1 + 1 by simp] at this
    exact this
  have cC := pCode s 0 0 (.slice none 0 0) ⟨#[]⟩ false h (w.heap.size + 1 + 1) _ _ hs (by omega) k2 HT.out HM.out ((Below.refl _ _).alloc (Nat.le_refl _) _)
  have CC := Lib.hid cC
  have hW0 : ((w.alloc (.cells #[.int .i64 0, .slice none 0 0, .string ⟨#[]⟩, .bool false, .bool false] 24)).alloc (.cells #[.int .i64 0, .int .i64 0] 33)).heap.size = w.heap.size + 1 + 1 := by simp
  have hA : ∀ X, ((((w.alloc (.cells #[.int .i64 0, .slice none 0 0, .string ⟨#[]⟩, .bool false, .bool false] 24)).alloc (.cells #[.int .i64 0, .int .i64 0] 33)).alloc (.cells #[.string (bs s), .int .i64 0, .int .i64 0, .slice none 0 0, .string ⟨#[]⟩, .bool false, .bool h] 95))).grownBy X (some (w.heap.size + 1 + 1)) → Below ((w.alloc (.cells #[.int .i64 0, .slice none 0 0, .string ⟨#[]⟩, .bool false, .bool false] 24)).alloc (.cells #[.int .i64 0, .int .i64 0] 33)).heap.size ((w.alloc (.cells #[.int .i64 0, .slice none 0 0, .string ⟨#[]⟩, .bool false, .bool false] 24)).alloc (.cells #[.int .i64 0, .int .i64 0] 33)) X := fun X hX => Wrel ((Below.refl _ _).alloc (Nat.le_refl _) _) hX (by simp) (by rw [hW0]; exact Nat.le_refl _)
  have HA := Lib.hid hA
  clear hA k2 cC
  generalize hWW : ((w.alloc (.cells #[.int .i64 0, .slice none 0 0, .string ⟨#[]⟩, .bool false, .bool false] 24)).alloc (.cells #[.int .i64 0, .int .i64 0] 33)) = W0 at B0 K0 K1 HT HM HE hW0 HA
  have HWW := Lib.hid hWW
  have HW0 := Lib.hid hW0
  clear hWW hW0
  cases q1 : lineP (s.drop 0) with
  | none =>
    have eA : parseA h s = (none, 0) := by unfold parseA; rw [q1]
    have eP : ParsePost h s w = fun e w' => e = .returned (.tuple #[rspV noRsp none 0 0, .int .i64 0, .agg #[.int .i64 3, .int .i64 ((0 : Nat) : Int)]]) ∧ Below w.heap.size w w' := by
      funext e w'; unfold ParsePost; rw [eA]
    rw [eP]
    clear eP eA
    rw [q1] at CC
    clear q1
    go_enter Tryd.func15, Tryd.ntmps15
    go_wp2_with fail
    (with_reducible refine (CC.out).mono ?_); rintro e w3 ⟨rfl, b3, g3⟩
    rw [HWW.out] at g3
    have H := Lib.hid (HA.out _ g3)
    have B := Lib.hid b3
    clear b3 g3 CC
    have kr := K0.out.below H.out K0.out.lt
    have kf := K1.out.below H.out K1.out.lt
    have p0 : w3.cell? ⟨w.heap.size, 0, none⟩ = some (.int .i64 0) := kr.cell 0
    have p1 : w3.cell? ⟨w.heap.size, 1, none⟩ = some (.slice none 0 0) := kr.cell 1
    have p2 : w3.cell? ⟨w.heap.size, 2, none⟩ = some (.string ⟨#[]⟩) := kr.cell 2
    have p3 : w3.cell? ⟨w.heap.size, 3, none⟩ = some (.bool false) := kr.cell 3
    have p4 : w3.cell? ⟨w.heap.size, 4, none⟩ = some (.bool false) := kr.cell 4
    have f0 := kr.frozen 0
    have f1 := kr.frozen 1
    have f2 := kr.frozen 2
    have f3 := kr.frozen 3
    have f4 := kr.frozen 4
    have r0 : w3.cell? ⟨w.heap.size + 1, 0, none⟩ = some (.int .i64 0) := kf.cell 0
    have r1 : w3.cell? ⟨w.heap.size + 1, 1, none⟩ = some (.int .i64 0) := kf.cell 1
    have s0 := kf.frozen 0
    have s1 := kf.frozen 1
    have a1 : w3.cell? ⟨w.heap.size + 1 + 1, 1, none⟩ = some (.int .i64 ((0 : Nat) : Int)) := B.out.cell 1
    have KF := Lib.hid (fin_chain kr kf (by omega) (.int .i64 0) (.slice none 0 0) (.string ⟨#[]⟩) (.bool false) (.bool false) (.int .i64 3) (.int .i64 ((0 : Nat) : Int)))
    have HB := Lib.hid (B0.out.trans (H.out.mono (by rw [HW0.out]; omega)))
    clear kr kf
    go_wp2_with fail
    go_region
    all_goals go_wp2_with fail
    all_goals (
      refine bodyPost_ret (results_cell_tmp_cell (p := 4) (t := 5) (q := 6) (ty := 24) (ty2 := 33) (by kernel_rfl) _ _ w.heap.size (w.heap.size + 1) _ _ _ rfl (ld5 KF.out.1 rfl) rfl rfl (ld2 KF.out.2.1 rfl)) rfl ?_
      exact ⟨rfl, KF.out.2.2 _ _ (Nat.le_refl _) (by omega) HB.out⟩)
  | some x =>
    rw [q1] at CC
    simp only at CC
    have ha1 := first_len q1
    cases q2 : codeP x.1 with
    | none =>
      have eA : parseA h s = (none, 0) := by unfold parseA; rw [q1]; simp only; rw [q2]
      have eP : ParsePost h s w = fun e w' => e = .returned (.tuple #[rspV noRsp none 0 0, .int .i64 0, .agg #[.int .i64 3, .int .i64 ((0 : Nat) : Int)]]) ∧ Below w.heap.size w w' := by
        funext e w'; unfold ParsePost; rw [eA]
      rw [eP]
      clear eP eA
      rw [q2] at CC
      clear q1 q2
      go_enter Tryd.func15, Tryd.ntmps15
      go_wp2_with fail
      (with_reducible refine (CC.out).mono ?_); rintro e w3 ⟨rfl, b3, g3⟩
      rw [HWW.out] at g3
      have H := Lib.hid (HA.out _ g3)
      have B := Lib.hid b3
      clear b3 g3 CC
      have kr := K0.out.below H.out K0.out.lt
      have kf := K1.out.below H.out K1.out.lt
      have p0 : w3.cell? ⟨w.heap.size, 0, none⟩ = some (.int .i64 0) := kr.cell 0
      have p1 : w3.cell? ⟨w.heap.size, 1, none⟩ = some (.slice none 0 0) := kr.cell 1
      have p2 : w3.cell? ⟨w.heap.size, 2, none⟩ = some (.string ⟨#[]⟩) := kr.cell 2
      have p3 : w3.cell? ⟨w.heap.size, 3, none⟩ = some (.bool false) := kr.cell 3
      have p4 : w3.cell? ⟨w.heap.size, 4, none⟩ = some (.bool false) := kr.cell 4
      have f0 := kr.frozen 0
      have f1 := kr.frozen 1
      have f2 := kr.frozen 2
      have f3 := kr.frozen 3
      have f4 := kr.frozen 4
      have r0 : w3.cell? ⟨w.heap.size + 1, 0, none⟩ = some (.int .i64 0) := kf.cell 0
      have r1 : w3.cell? ⟨w.heap.size + 1, 1, none⟩ = some (.int .i64 0) := kf.cell 1
      have s0 := kf.frozen 0
      have s1 := kf.frozen 1
      have a1 : w3.cell? ⟨w.heap.size + 1 + 1, 1, none⟩ = some (.int .i64 ((0 : Nat) : Int)) := B.out.cell 1
      have KF := Lib.hid (fin_chain kr kf (by omega) (.int .i64 0) (.slice none 0 0) (.string ⟨#[]⟩) (.bool false) (.bool false) (.int .i64 3) (.int .i64 ((0 : Nat) : Int)))
      have HB := Lib.hid (B0.out.trans (H.out.mono (by rw [HW0.out]; omega)))
      clear kr kf
      go_wp2_with fail
      go_region
      all_goals go_wp2_with fail
      all_goals (
        refine bodyPost_ret (results_cell_tmp_cell (p := 4) (t := 5) (q := 6) (ty := 24) (ty2 := 33) (by kernel_rfl) _ _ w.heap.size (w.heap.size + 1) _ _ _ rfl (ld5 KF.out.1 rfl) rfl rfl (ld2 KF.out.2.1 rfl)) rfl ?_
        exact ⟨rfl, KF.out.2.2 _ _ (Nat.le_refl _) (by omega) HB.out⟩)
    | some c =>
      rw [q2] at CC
      simp only at CC
      obtain ⟨fs, hfs⟩ : ∃ fs, (fldsP 32 (s.drop (0 + x.1.length + 2))).1 = fs := ⟨_, rfl⟩
      obtain ⟨a2, ha2e⟩ : ∃ a2, s.length - (fldsP 32 (s.drop (0 + x.1.length + 2))).2.length = a2 := ⟨_, rfl⟩
      have ha2 : a2 ≤ s.length := by omega
      have FS := Lib.hid (And.intro hfs ha2e)
      cases q3 : lineP (s.drop a2) with
      | none =>
        have eA : parseA h s = (none, a2) := by unfold parseA; rw [q1]; simp only; rw [q2]; simp only; rw [ha2e, q3]
        have eP : ParsePost h s w = fun e w' => e = .returned (.tuple #[rspV noRsp none 0 0, .int .i64 0, .agg #[.int .i64 3, .int .i64 ((a2 : Nat) : Int)]]) ∧ Below w.heap.size w w' := by
          funext e w'; unfold ParsePost; rw [eA]
        rw [eP]
        clear eP eA
        have Q3 := Lib.hid q3
        clear q1 q2 q3 hfs ha2e
        go_enter Tryd.func15, Tryd.ntmps15
        go_wp2_with fail
        (with_reducible refine (CC.out).mono ?_); rintro e w3 ⟨rfl, b3, g3⟩
        rw [HWW.out] at g3
        have H := Lib.hid (HA.out _ g3)
        have B := Lib.hid b3
        clear b3 g3 CC
        have CF := Lib.hid (pFieldsR s (0 + x.1.length + 2) c ⟨#[]⟩ false h (w.heap.size + 1 + 1) w3 W0 hs ha1 B.out HT.out HM.out H.out (by rw [HW0.out]; omega))
        clear B H
        go_wp2_with fail
        (with_reducible refine (CF.out).mono ?_); rintro e w4 ⟨A, cap, rfl, b4, o4, h4⟩
        rw [FS.out.1, FS.out.2] at b4
        rw [FS.out.1] at o4
        have H4 := Lib.hid h4
        have O4 := Lib.hid o4
        have B4 := Lib.hid b4
        have CB := Lib.hid (pBodyR s a2 c (.slice A fs.length cap) ⟨#[]⟩ false h (w.heap.size + 1 + 1) w4 W0 hs ha2 b4 HT.out HM.out HE.out h4)
        clear b4 o4 h4 CF
        rw [Q3.out] at CB
        go_wp2_with fail
        (with_reducible refine (CB.out).mono ?_); rintro e w5 ⟨rfl, b5, g5⟩
        have H := Lib.hid (Wrel H4.out g5 H4.out.size (by rw [HW0.out]; omega))
        have O := Lib.hid (O4.out.kept g5 (.inr (own_blk_ne (e := 47) O4.out B4.out (by decide))))
        have B := Lib.hid b5
        clear b5 g5 CB H4 O4 B4
        have kr := K0.out.below H.out K0.out.lt
        have kf := K1.out.below H.out K1.out.lt
        have p0 : w5.cell? ⟨w.heap.size, 0, none⟩ = some (.int .i64 0) := kr.cell 0
        have p1 : w5.cell? ⟨w.heap.size, 1, none⟩ = some (.slice none 0 0) := kr.cell 1
        have p2 : w5.cell? ⟨w.heap.size, 2, none⟩ = some (.string ⟨#[]⟩) := kr.cell 2
        have p3 : w5.cell? ⟨w.heap.size, 3, none⟩ = some (.bool false) := kr.cell 3
        have p4 : w5.cell? ⟨w.heap.size, 4, none⟩ = some (.bool false) := kr.cell 4
        have f0 := kr.frozen 0
        have f1 := kr.frozen 1
        have f2 := kr.frozen 2
        have f3 := kr.frozen 3
        have f4 := kr.frozen 4
        have r0 : w5.cell? ⟨w.heap.size + 1, 0, none⟩ = some (.int .i64 0) := kf.cell 0
        have r1 : w5.cell? ⟨w.heap.size + 1, 1, none⟩ = some (.int .i64 0) := kf.cell 1
        have s0 := kf.frozen 0
        have s1 := kf.frozen 1
        have a1 : w5.cell? ⟨w.heap.size + 1 + 1, 1, none⟩ = some (.int .i64 ((a2 : Nat) : Int)) := B.out.cell 1
        have KF := Lib.hid (fin_chain kr kf (by omega) (.int .i64 0) (.slice none 0 0) (.string ⟨#[]⟩) (.bool false) (.bool false) (.int .i64 3) (.int .i64 ((a2 : Nat) : Int)))
        have HB := Lib.hid (B0.out.trans (H.out.mono (by rw [HW0.out]; omega)))
        clear kr kf
        go_wp2_with fail
        go_region
        all_goals go_wp2_with fail
        all_goals (
          refine bodyPost_ret (results_cell_tmp_cell (p := 4) (t := 5) (q := 6) (ty := 24) (ty2 := 33) (by kernel_rfl) _ _ w.heap.size (w.heap.size + 1) _ _ _ rfl (ld5 KF.out.1 rfl) rfl rfl (ld2 KF.out.2.1 rfl)) rfl ?_
          exact ⟨rfl, KF.out.2.2 _ _ (Nat.le_refl _) (by omega) HB.out⟩)
      | some y =>
        have ha3 := second_len q3
        cases q4 : lenP y.1 with
        | none =>
          have eA : parseA h s = (none, a2) := by unfold parseA; rw [q1]; simp only; rw [q2]; simp only; rw [ha2e, q3]; simp only; rw [q4]
          have eP : ParsePost h s w = fun e w' => e = .returned (.tuple #[rspV noRsp none 0 0, .int .i64 0, .agg #[.int .i64 3, .int .i64 ((a2 : Nat) : Int)]]) ∧ Below w.heap.size w w' := by
            funext e w'; unfold ParsePost; rw [eA]
          rw [eP]
          clear eP eA
          have Q3 := Lib.hid q3
          have Q4 := Lib.hid q4
          clear q1 q2 q3 q4 hfs ha2e
          go_enter Tryd.func15, Tryd.ntmps15
          go_wp2_with fail
          (with_reducible refine (CC.out).mono ?_); rintro e w3 ⟨rfl, b3, g3⟩
          rw [HWW.out] at g3
          have H := Lib.hid (HA.out _ g3)
          have B := Lib.hid b3
          clear b3 g3 CC
          have CF := Lib.hid (pFieldsR s (0 + x.1.length + 2) c ⟨#[]⟩ false h (w.heap.size + 1 + 1) w3 W0 hs ha1 B.out HT.out HM.out H.out (by rw [HW0.out]; omega))
          clear B H
          go_wp2_with fail
          (with_reducible refine (CF.out).mono ?_); rintro e w4 ⟨A, cap, rfl, b4, o4, h4⟩
          rw [FS.out.1, FS.out.2] at b4
          rw [FS.out.1] at o4
          have H4 := Lib.hid h4
          have O4 := Lib.hid o4
          have B4 := Lib.hid b4
          have CB := Lib.hid (pBodyR s a2 c (.slice A fs.length cap) ⟨#[]⟩ false h (w.heap.size + 1 + 1) w4 W0 hs ha2 b4 HT.out HM.out HE.out h4)
          clear b4 o4 h4 CF
          rw [Q3.out] at CB
          simp only at CB
          rw [Q4.out] at CB
          go_wp2_with fail
          (with_reducible refine (CB.out).mono ?_); rintro e w5 ⟨rfl, b5, g5⟩
          have H := Lib.hid (Wrel H4.out g5 H4.out.size (by rw [HW0.out]; omega))
          have O := Lib.hid (O4.out.kept g5 (.inr (own_blk_ne (e := 47) O4.out B4.out (by decide))))
          have B := Lib.hid b5
          clear b5 g5 CB H4 O4 B4
          have kr := K0.out.below H.out K0.out.lt
          have kf := K1.out.below H.out K1.out.lt
          have p0 : w5.cell? ⟨w.heap.size, 0, none⟩ = some (.int .i64 0) := kr.cell 0
          have p1 : w5.cell? ⟨w.heap.size, 1, none⟩ = some (.slice none 0 0) := kr.cell 1
          have p2 : w5.cell? ⟨w.heap.size, 2, none⟩ = some (.string ⟨#[]⟩) := kr.cell 2
          have p3 : w5.cell? ⟨w.heap.size, 3, none⟩ = some (.bool false) := kr.cell 3
          have p4 : w5.cell? ⟨w.heap.size, 4, none⟩ = some (.bool false) := kr.cell 4
          have f0 := kr.frozen 0
          have f1 := kr.frozen 1
          have f2 := kr.frozen 2
          have f3 := kr.frozen 3
          have f4 := kr.frozen 4
          have r0 : w5.cell? ⟨w.heap.size + 1, 0, none⟩ = some (.int .i64 0) := kf.cell 0
          have r1 : w5.cell? ⟨w.heap.size + 1, 1, none⟩ = some (.int .i64 0) := kf.cell 1
          have s0 := kf.frozen 0
          have s1 := kf.frozen 1
          have a1 : w5.cell? ⟨w.heap.size + 1 + 1, 1, none⟩ = some (.int .i64 ((a2 : Nat) : Int)) := B.out.cell 1
          have KF := Lib.hid (fin_chain kr kf (by omega) (.int .i64 0) (.slice none 0 0) (.string ⟨#[]⟩) (.bool false) (.bool false) (.int .i64 3) (.int .i64 ((a2 : Nat) : Int)))
          have HB := Lib.hid (B0.out.trans (H.out.mono (by rw [HW0.out]; omega)))
          clear kr kf
          go_wp2_with fail
          go_region
          all_goals go_wp2_with fail
          all_goals (
            refine bodyPost_ret (results_cell_tmp_cell (p := 4) (t := 5) (q := 6) (ty := 24) (ty2 := 33) (by kernel_rfl) _ _ w.heap.size (w.heap.size + 1) _ _ _ rfl (ld5 KF.out.1 rfl) rfl rfl (ld2 KF.out.2.1 rfl)) rfl ?_
            exact ⟨rfl, KF.out.2.2 _ _ (Nat.le_refl _) (by omega) HB.out⟩)
        | some n =>
          have hn := (lenP_some q4).2
          obtain ⟨a4, cl, ok, hE4⟩ : ∃ a4 cl ok, endR s (a2 + y.1.length + 2) false = (a4, cl, ok) := ⟨_, _, _, rfl⟩
          have ha4 : a4 ≤ s.length := by
            have := endR_le s (a2 + y.1.length + 2) false ha3
            rw [hE4] at this
            exact this
          have ES := Lib.hid hE4
          cases ok with
          | false =>
            have eA : parseA h s = (none, a4) := by unfold parseA; rw [q1]; simp only; rw [q2]; simp only; rw [ha2e, q3]; simp only; rw [q4]; simp only; rw [hE4]; rfl
            have eP : ParsePost h s w = fun e w' => e = .returned (.tuple #[rspV noRsp none 0 0, .int .i64 0, .agg #[.int .i64 3, .int .i64 ((a4 : Nat) : Int)]]) ∧ Below w.heap.size w w' := by
              funext e w'; unfold ParsePost; rw [eA]
            rw [eP]
            clear eP eA
            have Q3 := Lib.hid q3
            have Q4 := Lib.hid q4
            clear q1 q2 q3 q4 hfs ha2e hE4
            go_enter Tryd.func15, Tryd.ntmps15
            go_wp2_with fail
            (with_reducible refine (CC.out).mono ?_); rintro e w3 ⟨rfl, b3, g3⟩
            rw [HWW.out] at g3
            have H := Lib.hid (HA.out _ g3)
            have B := Lib.hid b3
            clear b3 g3 CC
            have CF := Lib.hid (pFieldsR s (0 + x.1.length + 2) c ⟨#[]⟩ false h (w.heap.size + 1 + 1) w3 W0 hs ha1 B.out HT.out HM.out H.out (by rw [HW0.out]; omega))
            clear B H
            go_wp2_with fail
            (with_reducible refine (CF.out).mono ?_); rintro e w4 ⟨A, cap, rfl, b4, o4, h4⟩
            rw [FS.out.1, FS.out.2] at b4
            rw [FS.out.1] at o4
            have H4 := Lib.hid h4
            have O4 := Lib.hid o4
            have B4 := Lib.hid b4
            have CB := Lib.hid (pBodyR s a2 c (.slice A fs.length cap) ⟨#[]⟩ false h (w.heap.size + 1 + 1) w4 W0 hs ha2 b4 HT.out HM.out HE.out h4)
            clear b4 o4 h4 CF
            rw [Q3.out] at CB
            simp only at CB
            rw [Q4.out] at CB
            go_wp2_with fail
            (with_reducible refine (CB.out).mono ?_); rintro e w5 ⟨rfl, b5, g5⟩
            have H := Lib.hid (Wrel H4.out g5 H4.out.size (by rw [HW0.out]; omega))
            have O := Lib.hid (O4.out.kept g5 (.inr (own_blk_ne (e := 47) O4.out B4.out (by decide))))
            have B := Lib.hid b5
            clear b5 g5 CB H4 O4 B4
            have CE := Lib.hid (pEndR s (a2 + y.1.length + 2) c (.slice A fs.length cap) ⟨#[]⟩ false h (w.heap.size + 1 + 1) w5 hs ha3 B.out (HM.out.below H.out))
            rw [ES.out] at CE
            have H5 := Lib.hid H.out
            have O5 := Lib.hid O.out
            have B5 := Lib.hid B.out
            clear H O B
            go_wp2_with fail
            (with_reducible refine (CE.out).mono ?_); rintro e w6 ⟨rfl, b6, g6⟩
            have H := Lib.hid (Wrel H5.out g6 H5.out.size (by rw [HW0.out]; omega))
            have O := Lib.hid (O5.out.kept g6 (.inr (own_blk_ne (e := 47) O5.out B5.out (by decide))))
            have B := Lib.hid b6
            clear b6 g6 CE H5 O5 B5
            have kr := K0.out.below H.out K0.out.lt
            have kf := K1.out.below H.out K1.out.lt
            have p0 : w6.cell? ⟨w.heap.size, 0, none⟩ = some (.int .i64 0) := kr.cell 0
            have p1 : w6.cell? ⟨w.heap.size, 1, none⟩ = some (.slice none 0 0) := kr.cell 1
            have p2 : w6.cell? ⟨w.heap.size, 2, none⟩ = some (.string ⟨#[]⟩) := kr.cell 2
            have p3 : w6.cell? ⟨w.heap.size, 3, none⟩ = some (.bool false) := kr.cell 3
            have p4 : w6.cell? ⟨w.heap.size, 4, none⟩ = some (.bool false) := kr.cell 4
            have f0 := kr.frozen 0
            have f1 := kr.frozen 1
            have f2 := kr.frozen 2
            have f3 := kr.frozen 3
            have f4 := kr.frozen 4
            have r0 : w6.cell? ⟨w.heap.size + 1, 0, none⟩ = some (.int .i64 0) := kf.cell 0
            have r1 : w6.cell? ⟨w.heap.size + 1, 1, none⟩ = some (.int .i64 0) := kf.cell 1
            have s0 := kf.frozen 0
            have s1 := kf.frozen 1
            have a1 : w6.cell? ⟨w.heap.size + 1 + 1, 1, none⟩ = some (.int .i64 ((a4 : Nat) : Int)) := B.out.cell 1
            have KF := Lib.hid (fin_chain kr kf (by omega) (.int .i64 0) (.slice none 0 0) (.string ⟨#[]⟩) (.bool false) (.bool false) (.int .i64 3) (.int .i64 ((a4 : Nat) : Int)))
            have HB := Lib.hid (B0.out.trans (H.out.mono (by rw [HW0.out]; omega)))
            clear kr kf
            go_wp2_with fail
            go_region
            all_goals go_wp2_with fail
            all_goals (
              refine bodyPost_ret (results_cell_tmp_cell (p := 4) (t := 5) (q := 6) (ty := 24) (ty2 := 33) (by kernel_rfl) _ _ w.heap.size (w.heap.size + 1) _ _ _ rfl (ld5 KF.out.1 rfl) rfl rfl (ld2 KF.out.2.1 rfl)) rfl ?_
              exact ⟨rfl, KF.out.2.2 _ _ (Nat.le_refl _) (by omega) HB.out⟩)
          | true =>
            cases h with
            | true =>
              have eA : parseA true s = (some (⟨c, fs, [], cl, true⟩, a4), 0) := by unfold parseA; rw [q1]; simp only; rw [q2]; simp only; rw [ha2e, q3]; simp only; rw [q4]; simp only; rw [hE4, hfs]; rfl
              have eP : ParsePost true s w = fun e w' => ∃ A cap, e = .returned (.tuple #[rspV ⟨c, fs, [], cl, true⟩ A fs.length cap, .int .i64 ((a4 : Nat) : Int), .agg #[.int .i64 0, .int .i64 0]]) ∧ Reads w' w'.heap.size 2 A fs.length (fldsC fs) ∧ fs.length ≤ cap ∧ Below w.heap.size w w' := by
                funext e w'; unfold ParsePost; rw [eA]
              rw [eP]
              clear eP eA
              have Q3 := Lib.hid q3
              have Q4 := Lib.hid q4
              clear q1 q2 q3 q4 hfs ha2e hE4
              go_enter Tryd.func15, Tryd.ntmps15
              go_wp2_with fail
              (with_reducible refine (CC.out).mono ?_); rintro e w3 ⟨rfl, b3, g3⟩
              rw [HWW.out] at g3
              have H := Lib.hid (HA.out _ g3)
              have B := Lib.hid b3
              clear b3 g3 CC
              have CF := Lib.hid (pFieldsR s (0 + x.1.length + 2) c ⟨#[]⟩ false true (w.heap.size + 1 + 1) w3 W0 hs ha1 B.out HT.out HM.out H.out (by rw [HW0.out]; omega))
              clear B H
              go_wp2_with fail
              (with_reducible refine (CF.out).mono ?_); rintro e w4 ⟨A, cap, rfl, b4, o4, h4⟩
              rw [FS.out.1, FS.out.2] at b4
              rw [FS.out.1] at o4
              have H4 := Lib.hid h4
              have O4 := Lib.hid o4
              have B4 := Lib.hid b4
              have CB := Lib.hid (pBodyR s a2 c (.slice A fs.length cap) ⟨#[]⟩ false true (w.heap.size + 1 + 1) w4 W0 hs ha2 b4 HT.out HM.out HE.out h4)
              clear b4 o4 h4 CF
              rw [Q3.out] at CB
              simp only at CB
              rw [Q4.out] at CB
              go_wp2_with fail
              (with_reducible refine (CB.out).mono ?_); rintro e w5 ⟨rfl, b5, g5⟩
              have H := Lib.hid (Wrel H4.out g5 H4.out.size (by rw [HW0.out]; omega))
              have O := Lib.hid (O4.out.kept g5 (.inr (own_blk_ne (e := 47) O4.out B4.out (by decide))))
              have B := Lib.hid b5
              clear b5 g5 CB H4 O4 B4
              have CE := Lib.hid (pEndR s (a2 + y.1.length + 2) c (.slice A fs.length cap) ⟨#[]⟩ false true (w.heap.size + 1 + 1) w5 hs ha3 B.out (HM.out.below H.out))
              rw [ES.out] at CE
              have H5 := Lib.hid H.out
              have O5 := Lib.hid O.out
              have B5 := Lib.hid B.out
              clear H O B
              go_wp2_with fail
              (with_reducible refine (CE.out).mono ?_); rintro e w6 ⟨rfl, b6, g6⟩
              have H := Lib.hid (Wrel H5.out g6 H5.out.size (by rw [HW0.out]; omega))
              have O := Lib.hid (O5.out.kept g6 (.inr (own_blk_ne (e := 47) O5.out B5.out (by decide))))
              have B := Lib.hid b6
              clear b6 g6 CE H5 O5 B5
              have kr := K0.out.below H.out K0.out.lt
              have kf := K1.out.below H.out K1.out.lt
              have p0 : w6.cell? ⟨w.heap.size, 0, none⟩ = some (.int .i64 0) := kr.cell 0
              have p1 : w6.cell? ⟨w.heap.size, 1, none⟩ = some (.slice none 0 0) := kr.cell 1
              have p2 : w6.cell? ⟨w.heap.size, 2, none⟩ = some (.string ⟨#[]⟩) := kr.cell 2
              have p3 : w6.cell? ⟨w.heap.size, 3, none⟩ = some (.bool false) := kr.cell 3
              have p4 : w6.cell? ⟨w.heap.size, 4, none⟩ = some (.bool false) := kr.cell 4
              have f0 := kr.frozen 0
              have f1 := kr.frozen 1
              have f2 := kr.frozen 2
              have f3 := kr.frozen 3
              have f4 := kr.frozen 4
              have r0 : w6.cell? ⟨w.heap.size + 1, 0, none⟩ = some (.int .i64 0) := kf.cell 0
              have r1 : w6.cell? ⟨w.heap.size + 1, 1, none⟩ = some (.int .i64 0) := kf.cell 1
              have s0 := kf.frozen 0
              have s1 := kf.frozen 1
              have a1 : w6.cell? ⟨w.heap.size + 1 + 1, 1, none⟩ = some (.int .i64 ((a4 : Nat) : Int)) := B.out.cell 1
              have a2' : w6.cell? ⟨w.heap.size + 1 + 1, 2, none⟩ = some (.int .i64 c) := B.out.cell 2
              have a3' : w6.cell? ⟨w.heap.size + 1 + 1, 3, none⟩ = some (.slice A fs.length cap) := B.out.cell 3
              have a4' : w6.cell? ⟨w.heap.size + 1 + 1, 4, none⟩ = some (.string ⟨#[]⟩) := B.out.cell 4
              have a5' : w6.cell? ⟨w.heap.size + 1 + 1, 5, none⟩ = some (.bool cl) := B.out.cell 5
              have a6' : w6.cell? ⟨w.heap.size + 1 + 1, 6, none⟩ = some (.bool true) := B.out.cell 6
              have KF := Lib.hid (fin_chain kr kf (by omega) (.int .i64 c) (.slice A fs.length cap) (.string ⟨#[]⟩) (.bool cl) (.bool true) (.int .i64 0) (.int .i64 0))
              have HB := Lib.hid (B0.out.trans (H.out.mono (by rw [HW0.out]; omega)))
              have HO := Lib.hid (own_chain O.out w.heap.size (w.heap.size + 1) (by rw [HW0.out]; omega) (by rw [HW0.out]; omega) (.int .i64 c) (.slice A fs.length cap) (.string ⟨#[]⟩) (.bool cl) (.bool true) (.int .i64 0) (.int .i64 0))
              clear kr kf
              go_wp2_with fail
              go_region
              all_goals go_wp2_with fail
              all_goals (
                refine bodyPost_ret (results_cell_tmp_cell (p := 4) (t := 5) (q := 6) (ty := 24) (ty2 := 33) (by kernel_rfl) _ _ w.heap.size (w.heap.size + 1) _ _ _ rfl (ld5 KF.out.1 rfl) rfl rfl (ld2 KF.out.2.1 rfl)) rfl ?_
                exact ⟨A, cap, rfl, Reads.of_own HO.out, own_capR HO.out, KF.out.2.2 _ _ (Nat.le_refl _) (by omega) HB.out⟩)
            | false =>
              by_cases hsh : s.length - a4 < n
              · have eA : parseA false s = (none, s.length) := by unfold parseA; rw [q1]; simp only; rw [q2]; simp only; rw [ha2e, q3]; simp only; rw [q4]; simp only; rw [hE4]; simp only; rw [if_neg (by simp), if_neg (by simp), if_pos hsh]
                have eP : ParsePost false s w = fun e w' => e = .returned (.tuple #[rspV noRsp none 0 0, .int .i64 0, .agg #[.int .i64 3, .int .i64 ((s.length : Nat) : Int)]]) ∧ Below w.heap.size w w' := by
                  funext e w'; unfold ParsePost; rw [eA]
                rw [eP]
                clear eP eA
                have hzs := bs_size s
                have hd : decide ((s.length : Int) - (a4 : Int) < (n : Int)) = true := by simp; omega
                have hz1 : (0 : Int) ≤ (a4 : Int) := by omega
                have hz2 : (a4 : Int) ≤ (s.length : Int) := by omega
                have Q3 := Lib.hid q3
                have Q4 := Lib.hid q4
                clear q1 q2 q3 q4 hfs ha2e hE4 hsh
                go_enter Tryd.func15, Tryd.ntmps15
                go_wp2_with fail
                (with_reducible refine (CC.out).mono ?_); rintro e w3 ⟨rfl, b3, g3⟩
                rw [HWW.out] at g3
                have H := Lib.hid (HA.out _ g3)
                have B := Lib.hid b3
                clear b3 g3 CC
                have CF := Lib.hid (pFieldsR s (0 + x.1.length + 2) c ⟨#[]⟩ false false (w.heap.size + 1 + 1) w3 W0 hs ha1 B.out HT.out HM.out H.out (by rw [HW0.out]; omega))
                clear B H
                go_wp2_with fail
                (with_reducible refine (CF.out).mono ?_); rintro e w4 ⟨A, cap, rfl, b4, o4, h4⟩
                rw [FS.out.1, FS.out.2] at b4
                rw [FS.out.1] at o4
                have H4 := Lib.hid h4
                have O4 := Lib.hid o4
                have B4 := Lib.hid b4
                have CB := Lib.hid (pBodyR s a2 c (.slice A fs.length cap) ⟨#[]⟩ false false (w.heap.size + 1 + 1) w4 W0 hs ha2 b4 HT.out HM.out HE.out h4)
                clear b4 o4 h4 CF
                rw [Q3.out] at CB
                simp only at CB
                rw [Q4.out] at CB
                go_wp2_with fail
                (with_reducible refine (CB.out).mono ?_); rintro e w5 ⟨rfl, b5, g5⟩
                have H := Lib.hid (Wrel H4.out g5 H4.out.size (by rw [HW0.out]; omega))
                have O := Lib.hid (O4.out.kept g5 (.inr (own_blk_ne (e := 47) O4.out B4.out (by decide))))
                have B := Lib.hid b5
                clear b5 g5 CB H4 O4 B4
                have CE := Lib.hid (pEndR s (a2 + y.1.length + 2) c (.slice A fs.length cap) ⟨#[]⟩ false false (w.heap.size + 1 + 1) w5 hs ha3 B.out (HM.out.below H.out))
                rw [ES.out] at CE
                have H5 := Lib.hid H.out
                have O5 := Lib.hid O.out
                have B5 := Lib.hid B.out
                clear H O B
                go_wp2_with fail
                (with_reducible refine (CE.out).mono ?_); rintro e w6 ⟨rfl, b6, g6⟩
                have H := Lib.hid (Wrel H5.out g6 H5.out.size (by rw [HW0.out]; omega))
                have O := Lib.hid (O5.out.kept g6 (.inr (own_blk_ne (e := 47) O5.out B5.out (by decide))))
                have B := Lib.hid b6
                clear b6 g6 CE H5 O5 B5
                have kr := K0.out.below H.out K0.out.lt
                have kf := K1.out.below H.out K1.out.lt
                have p0 : w6.cell? ⟨w.heap.size, 0, none⟩ = some (.int .i64 0) := kr.cell 0
                have p1 : w6.cell? ⟨w.heap.size, 1, none⟩ = some (.slice none 0 0) := kr.cell 1
                have p2 : w6.cell? ⟨w.heap.size, 2, none⟩ = some (.string ⟨#[]⟩) := kr.cell 2
                have p3 : w6.cell? ⟨w.heap.size, 3, none⟩ = some (.bool false) := kr.cell 3
                have p4 : w6.cell? ⟨w.heap.size, 4, none⟩ = some (.bool false) := kr.cell 4
                have f0 := kr.frozen 0
                have f1 := kr.frozen 1
                have f2 := kr.frozen 2
                have f3 := kr.frozen 3
                have f4 := kr.frozen 4
                have r0 : w6.cell? ⟨w.heap.size + 1, 0, none⟩ = some (.int .i64 0) := kf.cell 0
                have r1 : w6.cell? ⟨w.heap.size + 1, 1, none⟩ = some (.int .i64 0) := kf.cell 1
                have s0 := kf.frozen 0
                have s1 := kf.frozen 1
                have a1 : w6.cell? ⟨w.heap.size + 1 + 1, 1, none⟩ = some (.int .i64 ((a4 : Nat) : Int)) := B.out.cell 1
                have KF := Lib.hid (fin_chain0 kr kf (by omega) (.int .i64 0) (.slice none 0 0) (.string ⟨#[]⟩) (.bool false) (.bool false) (.int .i64 3) (.int .i64 ((s.length : Nat) : Int)))
                have HB := Lib.hid (B0.out.trans (H.out.mono (by rw [HW0.out]; omega)))
                clear kr kf
                go_wp2_with fail
                all_goals (
                  refine bodyPost_ret (results_cell_tmp_cell (p := 4) (t := 5) (q := 6) (ty := 24) (ty2 := 33) (by kernel_rfl) _ _ w.heap.size (w.heap.size + 1) _ _ _ rfl (ld5 KF.out.1 rfl) rfl rfl (ld2 KF.out.2.1 rfl)) rfl ?_
                  exact ⟨rfl, KF.out.2.2 _ _ (Nat.le_refl _) (by omega) HB.out⟩)
              · have eA : parseA false s = (some (⟨c, fs, (s.drop a4).take n, cl, false⟩, a4 + n), 0) := by unfold parseA; rw [q1]; simp only; rw [q2]; simp only; rw [ha2e, q3]; simp only; rw [q4]; simp only; rw [hE4, hfs]; simp only; rw [if_neg (by simp), if_neg (by simp), if_neg hsh]
                have eP : ParsePost false s w = fun e w' => ∃ A cap, e = .returned (.tuple #[rspV ⟨c, fs, (s.drop a4).take n, cl, false⟩ A fs.length cap, .int .i64 ((a4 + n : Nat) : Int), .agg #[.int .i64 0, .int .i64 0]]) ∧ Reads w' w'.heap.size 2 A fs.length (fldsC fs) ∧ fs.length ≤ cap ∧ Below w.heap.size w w' := by
                  funext e w'; unfold ParsePost; rw [eA]
                rw [eP]
                clear eP eA
                have hzs := bs_size s
                have hd : decide ((s.length : Int) - (a4 : Int) < (n : Int)) = false := by simp; omega
                have hz1 : (0 : Int) ≤ (a4 : Int) := by omega
                have hz2 : (a4 : Int) ≤ ((a4 + n : Nat) : Int) := by omega
                have hz3 : ((a4 + n : Nat) : Int) ≤ (s.length : Int) := by omega
                have hw1 : IntKind.i64.wrap ((a4 : Int) + (n : Int)) = ((a4 + n : Nat) : Int) := by rw [IntKind.wrap_i64]; omega
                have hx2 : (bs s).extract a4 (a4 + n) = bs ((s.drop a4).take n) := by
                  rw [xb]
                  congr 1
                  rw [List.drop_take]; congr 1; omega
                obtain ⟨bd, hbd⟩ : ∃ bd, bs ((s.drop a4).take n) = bd := ⟨_, rfl⟩
                have HBD := Lib.hid hbd
                rw [hbd] at hx2
                have Q3 := Lib.hid q3
                have Q4 := Lib.hid q4
                clear q1 q2 q3 q4 hfs ha2e hE4 hsh hbd
                go_enter Tryd.func15, Tryd.ntmps15
                go_wp2_with fail
                (with_reducible refine (CC.out).mono ?_); rintro e w3 ⟨rfl, b3, g3⟩
                rw [HWW.out] at g3
                have H := Lib.hid (HA.out _ g3)
                have B := Lib.hid b3
                clear b3 g3 CC
                have CF := Lib.hid (pFieldsR s (0 + x.1.length + 2) c ⟨#[]⟩ false false (w.heap.size + 1 + 1) w3 W0 hs ha1 B.out HT.out HM.out H.out (by rw [HW0.out]; omega))
                clear B H
                go_wp2_with fail
                (with_reducible refine (CF.out).mono ?_); rintro e w4 ⟨A, cap, rfl, b4, o4, h4⟩
                rw [FS.out.1, FS.out.2] at b4
                rw [FS.out.1] at o4
                have H4 := Lib.hid h4
                have O4 := Lib.hid o4
                have B4 := Lib.hid b4
                have CB := Lib.hid (pBodyR s a2 c (.slice A fs.length cap) ⟨#[]⟩ false false (w.heap.size + 1 + 1) w4 W0 hs ha2 b4 HT.out HM.out HE.out h4)
                clear b4 o4 h4 CF
                rw [Q3.out] at CB
                simp only at CB
                rw [Q4.out] at CB
                go_wp2_with fail
                (with_reducible refine (CB.out).mono ?_); rintro e w5 ⟨rfl, b5, g5⟩
                have H := Lib.hid (Wrel H4.out g5 H4.out.size (by rw [HW0.out]; omega))
                have O := Lib.hid (O4.out.kept g5 (.inr (own_blk_ne (e := 47) O4.out B4.out (by decide))))
                have B := Lib.hid b5
                clear b5 g5 CB H4 O4 B4
                have CE := Lib.hid (pEndR s (a2 + y.1.length + 2) c (.slice A fs.length cap) ⟨#[]⟩ false false (w.heap.size + 1 + 1) w5 hs ha3 B.out (HM.out.below H.out))
                rw [ES.out] at CE
                have H5 := Lib.hid H.out
                have O5 := Lib.hid O.out
                have B5 := Lib.hid B.out
                clear H O B
                go_wp2_with fail
                (with_reducible refine (CE.out).mono ?_); rintro e w6 ⟨rfl, b6, g6⟩
                have H := Lib.hid (Wrel H5.out g6 H5.out.size (by rw [HW0.out]; omega))
                have O := Lib.hid (O5.out.kept g6 (.inr (own_blk_ne (e := 47) O5.out B5.out (by decide))))
                have B := Lib.hid b6
                clear b6 g6 CE H5 O5 B5
                have b7 := B.out.set_ 4 (.string bd)
                have e7 : (rC s a4 c (.slice A fs.length cap) ⟨#[]⟩ cl false).setIfInBounds 4 (.string bd) = rC s a4 c (.slice A fs.length cap) bd cl false := by simp [rC]
                rw [e7] at b7
                have h7 := H.out.setCell (p := ⟨w.heap.size + 1 + 1, 4, none⟩) (by rw [HW0.out]; exact Nat.le_refl _) (.string bd)
                have o7 : (w6.setCell ⟨w.heap.size + 1 + 1, 4, none⟩ (.string bd)).ownsRow W0.heap.size 47 2 (.slice A fs.length cap) fs.length (fldsC fs) := O.out.kept (Lib.grownBy_setB (World.grownBy.refl w6 (some (w.heap.size + 1 + 1))) 4 _) (.inr (own_blk_ne (e := 47) O.out B.out (by decide)))
                have t0 : w6.cell? ⟨w.heap.size + 1 + 1, 0, none⟩ = some (.string (bs s)) := B.out.cell 0
                have t1 : w6.cell? ⟨w.heap.size + 1 + 1, 1, none⟩ = some (.int .i64 ((a4 : Nat) : Int)) := B.out.cell 1
                have t4 : w6.cell? ⟨w.heap.size + 1 + 1, 4, none⟩ = some (.string ⟨#[]⟩) := B.out.cell 4
                have t5 := B.out.frozen 4
                have H7 := Lib.hid h7.drew
                have O7 := Lib.hid (show (w6.setCell ⟨w.heap.size + 1 + 1, 4, none⟩ (.string bd)).drew.ownsRow W0.heap.size 47 2 (.slice A fs.length cap) fs.length (fldsC fs) from own_drewN o7 1)
                have B7 := Lib.hid b7.drew
                clear b7 e7 h7 o7 H O B
                go_wp2_with fail
                go_region
                generalize (w6.setCell ⟨w.heap.size + 1 + 1, 4, none⟩ (.string bd)).drew = w7 at H7 O7 B7 ⊢
                have H := Lib.hid H7.out
                have O := Lib.hid O7.out
                have B := Lib.hid B7.out
                have hV := Lib.hid (show rspV ⟨c, fs, (s.drop a4).take n, cl, false⟩ A fs.length cap = .agg #[.int .i64 c, .slice A fs.length cap, .string bd, .bool cl, .bool false] by unfold rspV; rw [HBD.out])
                clear H7 O7 B7 t0 t1 t4 t5
                have kr := K0.out.below H.out K0.out.lt
                have kf := K1.out.below H.out K1.out.lt
                have p0 : w7.cell? ⟨w.heap.size, 0, none⟩ = some (.int .i64 0) := kr.cell 0
                have p1 : w7.cell? ⟨w.heap.size, 1, none⟩ = some (.slice none 0 0) := kr.cell 1
                have p2 : w7.cell? ⟨w.heap.size, 2, none⟩ = some (.string ⟨#[]⟩) := kr.cell 2
                have p3 : w7.cell? ⟨w.heap.size, 3, none⟩ = some (.bool false) := kr.cell 3
                have p4 : w7.cell? ⟨w.heap.size, 4, none⟩ = some (.bool false) := kr.cell 4
                have f0 := kr.frozen 0
                have f1 := kr.frozen 1
                have f2 := kr.frozen 2
                have f3 := kr.frozen 3
                have f4 := kr.frozen 4
                have r0 : w7.cell? ⟨w.heap.size + 1, 0, none⟩ = some (.int .i64 0) := kf.cell 0
                have r1 : w7.cell? ⟨w.heap.size + 1, 1, none⟩ = some (.int .i64 0) := kf.cell 1
                have s0 := kf.frozen 0
                have s1 := kf.frozen 1
                have a1 : w7.cell? ⟨w.heap.size + 1 + 1, 1, none⟩ = some (.int .i64 ((a4 : Nat) : Int)) := B.out.cell 1
                have a2' : w7.cell? ⟨w.heap.size + 1 + 1, 2, none⟩ = some (.int .i64 c) := B.out.cell 2
                have a3' : w7.cell? ⟨w.heap.size + 1 + 1, 3, none⟩ = some (.slice A fs.length cap) := B.out.cell 3
                have a4' : w7.cell? ⟨w.heap.size + 1 + 1, 4, none⟩ = some (.string bd) := B.out.cell 4
                have a5' : w7.cell? ⟨w.heap.size + 1 + 1, 5, none⟩ = some (.bool cl) := B.out.cell 5
                have a6' : w7.cell? ⟨w.heap.size + 1 + 1, 6, none⟩ = some (.bool false) := B.out.cell 6
                have KF := Lib.hid (fin_chain kr kf (by omega) (.int .i64 c) (.slice A fs.length cap) (.string bd) (.bool cl) (.bool false) (.int .i64 0) (.int .i64 0))
                have HB := Lib.hid (B0.out.trans (H.out.mono (by rw [HW0.out]; omega)))
                have HO := Lib.hid (own_chain O.out w.heap.size (w.heap.size + 1) (by rw [HW0.out]; omega) (by rw [HW0.out]; omega) (.int .i64 c) (.slice A fs.length cap) (.string bd) (.bool cl) (.bool false) (.int .i64 0) (.int .i64 0))
                clear kr kf
                go_wp2_with fail
                go_region
                all_goals go_wp2_with fail
                all_goals (
                  refine bodyPost_ret (results_cell_tmp_cell (p := 4) (t := 5) (q := 6) (ty := 24) (ty2 := 33) (by kernel_rfl) _ _ w.heap.size (w.heap.size + 1) _ _ _ rfl (ld5 KF.out.1 rfl) rfl rfl (ld2 KF.out.2.1 rfl)) rfl ?_
                  refine ⟨A, cap, ?_, ?_, ?_, ?_⟩
                  · rw [hV.out, Int.natCast_add]
                    rfl
                  · exact Reads.of_own HO.out
                  · exact own_capR HO.out
                  · exact KF.out.2.2 _ _ (Nat.le_refl _) (by omega) HB.out)
end Go.Proofs.YthhlnpfcpgfcfaaDoor
