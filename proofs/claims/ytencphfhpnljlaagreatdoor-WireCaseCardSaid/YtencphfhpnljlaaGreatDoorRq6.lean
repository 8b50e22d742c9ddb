/-
  reqline: Parse, Text.
-/
import Derived.Test.YtencphfhpnljlaaGreatDoorRq5
namespace Go.Proofs.YtencphfhpnljlaaGreatDoor
open Go.RowKit

theorem bs_toList (l : List UInt8) : (bs l).toList = l := by rw [Lib.toList_data, bs_list]
theorem lit_t {l m : List UInt8} (h : l = m) : ((bs l).toList == m) = true := by rw [bs_toList, h]; simp
theorem lit_f {l m : List UInt8} (h : l ≠ m) : ((bs l).toList == m) = false := by rw [bs_toList, beq_eq_false_iff_ne]; exact h
/-- a request line -/
def goodQ (m t v : List UInt8) (n : Nat) : Prop := n = 3 ∧ isTok m = true ∧ tgtT t = true ∧ v = verS
theorem tgtN_good {t : List UInt8} (h : tgtT t = true) : tgtN t = t.length ∧ t ≠ [] := by
  unfold tgtT at h
  simp only [Bool.and_eq_true, decide_eq_true_eq] at h
  have hne : t ≠ [] := fun e => by rw [e] at h; simp at h
  unfold tgtN
  rw [if_pos h.1]
  exact ⟨(takeWhile_len charQ t).2.2 h.2, hne⟩
theorem tgtN_back {t : List UInt8} (h : tgtN t = t.length) (hne : t ≠ []) : tgtT t = true := by
  unfold tgtN at h
  unfold tgtT
  have hl : 0 < t.length := List.length_pos_iff.2 hne
  split at h
  · rename_i hh
    simp only [Bool.and_eq_true, decide_eq_true_eq]
    exact ⟨hh, (takeWhile_len charQ t).2.1 h⟩
  · omega
theorem meth_good {m : List UInt8} (h : isTok m = true) : methN m = m.length ∧ m ≠ [] := by
  unfold isTok at h
  simp only [Bool.and_eq_true, Bool.not_eq_true', List.isEmpty_eq_false_iff] at h
  exact ⟨(takeWhile_len _ m).2.2 h.2, h.1⟩
theorem meth_back {m : List UInt8} (h : methN m = m.length) (hne : m ≠ []) : isTok m = true := by
  unfold isTok
  simp only [Bool.and_eq_true, Bool.not_eq_true', List.isEmpty_eq_false_iff]
  exact ⟨hne, (takeWhile_len _ m).2.1 h⟩
theorem wrong_good {m t v : List UInt8} {n : Nat} (h : goodQ m t v n) : wrongQ (methN m) m.length (tgtN t) t.length (verN v verS) v.length n = false := by
  obtain ⟨rfl, h1, h2, rfl⟩ := h
  obtain ⟨a1, a2⟩ := meth_good h1
  obtain ⟨b1, b2⟩ := tgtN_good h2
  have a3 : 0 < m.length := List.length_pos_iff.2 a2
  have b3 : 0 < t.length := List.length_pos_iff.2 b2
  rw [a1, b1, verN_self]
  unfold wrongQ
  rw [if_neg (by omega), if_neg (by omega), if_neg (by omega), if_neg (by omega), if_neg (by omega), if_neg (by omega)]
  simp
theorem wrong_back {m t : List UInt8} (h : wrongQ (methN m) m.length (tgtN t) t.length (verN verS verS) verS.length 3 = false) : goodQ m t verS 3 := by
  have a0 := (takeWhile_len (fun b => tokP b.toNat) m).1
  have b0 : tgtN t ≤ t.length := by unfold tgtN; split; exact (takeWhile_len _ _).1; exact Nat.zero_le _
  unfold wrongQ at h
  split at h
  · cases h
  · rename_i h1
    split at h
    · cases h
    · rename_i h2
      rw [if_neg (by omega)] at h
      split at h
      · cases h
      · rename_i h3
        split at h
        · cases h
        · rename_i h4
          have hm : methN m = m.length := by unfold methN at h1 ⊢; omega
          have ht : tgtN t = t.length := by omega
          refine ⟨rfl, meth_back hm (fun e => h2 ⟨by omega, by rw [hm, e]; rfl⟩), tgtN_back ht (fun e => h4 ⟨by omega, by rw [ht, e]; rfl⟩), rfl⟩
theorem results_cell_row_tmq2 {P : Program} {fn : Func} {p u v : Tmp} {ty : TypeId} (h : fn.results = #[.cell p ty, .tmp u, .tmp v]) (tmps : Array Value) (w : World) (g : Nat) (t : TypeId) (cs : Array Value) (fr : Nat × Nat) (d : TypeDesc)
    (hp : tmps.getD p undef = .pointer (some ⟨g, 0, none⟩)) (hg : w.heap[g]? = some (.cells cs t fr))
    (hu : P.underlying ty = some d) (hd : (match d with | .struct _ | .array _ _ => true | _ => false) = true) (hi : (P.info? ty).map (·.size) = some cs.size) :
    (results fn tmps).run P w = .ok (.tuple #[.agg cs, tmps.getD u undef, tmps.getD v undef]) w := by
  have hp' : tmps[p]?.getD undef = .pointer (some ⟨g, 0, none⟩) := by simpa using hp
  have hl := run_loadVar_row w g t ty cs fr d hg hu hd hi
  simp [results, h, hp', asAddr, hl]
def ParsePost (m t : List UInt8) (s : Nat) (w : World) (e : Ending) (w' : World) : Prop := ∃ r : Int, e = .returned (.tuple #[.agg #[.string (bs m), .string (bs t)], .int .i64 (s : Int), .int .i64 r]) ∧ Below w.heap.size w w'
set_option maxRecDepth 100000 in
set_option maxHeartbeats 8000000 in
theorem pParseQ (S : List UInt8) (w : World) (hs : S.length ≤ 1000000) (h : MaxL w) :
    Calls Tryz.prog 77 #[.string (bs S)] w (ParsePost (lineS S).1.1 (lineS S).1.2 (lineS S).2 w) := by
  have bX : Below w.heap.size w (w.alloc (.cells #[.string ⟨#[]⟩, .string ⟨#[]⟩] 24)) := (Below.refl _ _).alloc (Nat.le_refl _) _
  have kX := Blk.new w 24 #[.string ⟨#[]⟩, .string ⟨#[]⟩]
  have cL := fun X (hX : Below w.heap.size w X) => pLong S X hs (h.below hX)
  have cR := fun X (hX : Below w.heap.size w X) => pReadQ S X hs (h.below hX)
  have hl := parts_len S
  have hdef : lineS S = if longS S ≠ 0 then (([], []), longS S) else if (partsS S).2.2.2 = 3 ∧ isTok (partsS S).1 = true ∧ tgtT (partsS S).2.1 = true ∧ (partsS S).2.2.1 = verS then (((partsS S).1, (partsS S).2.1), 0) else (([], []), 400) := rfl
  have hz := bs_size S
  obtain ⟨m, t, v, n, hX⟩ : ∃ m t v n, partsS S = (m, t, v, n) := ⟨_, _, _, _, rfl⟩
  rw [hX] at cR hl hdef
  simp only at cR hl hdef
  obtain ⟨E, hE⟩ : ∃ E, longS S = E := ⟨_, rfl⟩
  rw [hE] at cL hdef
  have CL := Lib.hid (cL _ bX)
  have CR := Lib.hid cR
  have KX := Lib.hid (And.intro bX kX)
  clear cL cR bX kX h hX hE
  have x0 : (w.alloc (.cells #[.string ⟨#[]⟩, .string ⟨#[]⟩] 24)).cell? ⟨w.heap.size, 0, none⟩ = some (.string ⟨#[]⟩) := KX.out.2.cell 0
  by_cases hE0 : E = 0
  · subst hE0
    rw [if_neg (by simp)] at hdef
    have e1 : (((0 : Nat) : Int) != 0) = false := rfl
    have cW := fun X => pWrong (bs m) (bs t) (bs v) n X (by rw [bs_size]; omega) (by rw [bs_size]; omega) (by rw [bs_size]; omega) hl.2.2.2.1 hl.2.2.2.2
    simp only [bs_list, bs_size] at cW
    obtain ⟨R, hR⟩ : ∃ R, wrongQ (methN m) m.length (tgtN t) t.length (verN v verS) v.length n = R := ⟨_, rfl⟩
    rw [hR] at cW
    have CW := Lib.hid cW
    have HR := Lib.hid hR
    have HD := Lib.hid hdef
    clear cW hR hdef
    go_enter Tryz.func77, Tryz.ntmps77
    go_wp2_with fail
    (with_reducible refine (CL.out).mono ?_); rintro e w1 ⟨r1, rfl, g1⟩
    have h1 := KX.out.1.trans (g1.mono KX.out.1.size)
    have k1 := KX.out.2.below g1 KX.out.2.lt
    have H1 := Lib.hid (And.intro h1 k1)
    have CR1 := Lib.hid (CR.out _ h1)
    clear h1 k1 g1 x0
    go_wp2_with fail
    (with_reducible refine (CR1.out).mono ?_); rintro e w2 ⟨rfl, g2⟩
    have h2 := H1.out.1.trans (g2.mono H1.out.1.size)
    have k2 := H1.out.2.below g2 H1.out.2.lt
    have b3 := h2.alloc h2.size (.cells #[.string (bs m), .string (bs t), .string (bs v), .int .i64 (n : Int)] 122)
    have k3 := k2.alloc (.cells #[.string (bs m), .string (bs t), .string (bs v), .int .i64 (n : Int)] 122)
    have c3 := Blk.new w2 122 #[.string (bs m), .string (bs t), .string (bs v), .int .i64 (n : Int)]
    have p0 : (w2.alloc (.cells #[.string (bs m), .string (bs t), .string (bs v), .int .i64 (n : Int)] 122)).cell? ⟨w2.heap.size, 0, none⟩ = some (.string (bs m)) := c3.cell 0
    have p1 : (w2.alloc (.cells #[.string (bs m), .string (bs t), .string (bs v), .int .i64 (n : Int)] 122)).cell? ⟨w2.heap.size, 1, none⟩ = some (.string (bs t)) := c3.cell 1
    have p2 : (w2.alloc (.cells #[.string (bs m), .string (bs t), .string (bs v), .int .i64 (n : Int)] 122)).cell? ⟨w2.heap.size, 2, none⟩ = some (.string (bs v)) := c3.cell 2
    have p3 : (w2.alloc (.cells #[.string (bs m), .string (bs t), .string (bs v), .int .i64 (n : Int)] 122)).cell? ⟨w2.heap.size, 3, none⟩ = some (.int .i64 (n : Int)) := c3.cell 3
    have nb : w.heap.size ≠ w2.heap.size := by have := k2.lt; omega
    have H3 := Lib.hid (And.intro b3 (And.intro k3 c3))
    clear h2 k2 b3 k3 c3 g2 CR1
    go_wp2_with fail
    (with_reducible refine (CW.out _).mono ?_); rintro e w4 ⟨r, rfl, hr, g4⟩
    have h4 := H3.out.1.trans (g4.mono H3.out.1.size)
    have k4 := H3.out.2.1.below g4 H3.out.2.1.lt
    have c4 := H3.out.2.2.below g4 H3.out.2.2.lt
    have q0 : w4.cell? ⟨w2.heap.size, 0, none⟩ = some (.string (bs m)) := c4.cell 0
    have q1 : w4.cell? ⟨w2.heap.size, 1, none⟩ = some (.string (bs t)) := c4.cell 1
    have q2 : w4.cell? ⟨w2.heap.size, 2, none⟩ = some (.string (bs v)) := c4.cell 2
    have q3 : w4.cell? ⟨w2.heap.size, 3, none⟩ = some (.int .i64 (n : Int)) := c4.cell 3
    have u0 : w4.cell? ⟨w.heap.size, 0, none⟩ = some (.string ⟨#[]⟩) := k4.cell 0
    have u1 : w4.cell? ⟨w.heap.size, 1, none⟩ = some (.string ⟨#[]⟩) := k4.cell 1
    have f0 := k4.frozen 0
    have f1 := k4.frozen 1
    have H4 := Lib.hid (And.intro h4 k4)
    clear h4 k4 c4 g4 p0 p1 p2 p3 CW
    have fin : ∀ a b : List UInt8, Blk ((w4.setCell ⟨w.heap.size, 0, none⟩ (.string (bs a))).setCell ⟨w.heap.size, 1, none⟩ (.string (bs b))) w.heap.size 24 #[.string (bs a), .string (bs b)] ∧ Below w.heap.size w ((w4.setCell ⟨w.heap.size, 0, none⟩ (.string (bs a))).setCell ⟨w.heap.size, 1, none⟩ (.string (bs b))) := fun a b => by
      refine ⟨?_, (H4.out.1.setCell (p := ⟨w.heap.size, 0, none⟩) (Nat.le_refl _) _).setCell (p := ⟨w.heap.size, 1, none⟩) (Nat.le_refl _) _⟩
      have x := (H4.out.2.set_ 0 (.string (bs a))).set_ 1 (.string (bs b))
      have e : ((#[.string ⟨#[]⟩, .string ⟨#[]⟩] : Array Value).setIfInBounds 0 (.string (bs a))).setIfInBounds 1 (.string (bs b)) = #[.string (bs a), .string (bs b)] := by simp
      rw [e] at x
      exact x
    have FIN := Lib.hid fin
    clear fin
    by_cases hr0 : 0 ≤ r
    · have hR : R = true := by rw [← hr]; exact decide_eq_true hr0
      have hS : lineS S = (([], []), 400) := by
        rw [HD.out, if_neg]
        intro hg
        have := wrong_good hg
        rw [HR.out, hR] at this
        cases this
      have HS := Lib.hid hS
      have d1 : decide (0 ≤ r) = true := decide_eq_true hr0
      clear hS hr hR
      go_wp2_with fail
      refine bodyPost_ret (results_cell_row_tmq2 (p := 2) (u := 3) (v := 4) (ty := 24) (by kernel_rfl) _ _ w.heap.size 24 #[.string (bs []), .string (bs [])] (0, 0) _ rfl (FIN.out [] []).1 Tryz.underlying24 rfl (by kernel_rfl)) rfl ?_
      exact ⟨r, by rw [HS.out]; rfl, (FIN.out [] []).2⟩
    · have hR : R = false := by rw [← hr]; exact decide_eq_false hr0
      have d1 : decide (0 ≤ r) = false := decide_eq_false hr0
      subst hR
      clear hr
      by_cases hn : n < 3
      · have hS : lineS S = (([], []), 400) := by
          rw [HD.out, if_neg]
          intro hg
          have := hg.1
          omega
        have HS := Lib.hid hS
        have i1 : (n : Int) < 3 := by omega
        have d2 : decide ((n : Int) < 3) = true := by simp; omega
        clear hS hn
        go_wp2_with fail
        refine bodyPost_ret (results_cell_row_tmq2 (p := 2) (u := 3) (v := 4) (ty := 24) (by kernel_rfl) _ _ w.heap.size 24 #[.string (bs []), .string (bs [])] (0, 0) _ rfl (FIN.out [] []).1 Tryz.underlying24 rfl (by kernel_rfl)) rfl ?_
        exact ⟨(S.length : Int), by rw [HS.out]; rfl, (FIN.out [] []).2⟩
      · have i1 : ¬ (n : Int) < 3 := by omega
        have d2 : decide ((n : Int) < 3) = false := by simp; omega
        have n3 : n = 3 := by omega
        have N3 := Lib.hid n3
        clear n3 hn
        by_cases hv : v = verS
        · have e2 : ((bs v).toList == [72, 84, 84, 80, 47, 49, 46, 49]) = true := lit_t hv
          have hS : lineS S = ((m, t), 0) := by
            rw [HD.out, if_pos]
            have hw := HR.out
            rw [N3.out, hv] at hw ⊢
            exact wrong_back hw
          have HS := Lib.hid hS
          clear hS hv
          go_wp2_with fail
          refine bodyPost_ret (results_cell_row_tmq2 (p := 2) (u := 3) (v := 4) (ty := 24) (by kernel_rfl) _ _ w.heap.size 24 #[.string (bs m), .string (bs t)] (0, 0) _ rfl (FIN.out m t).1 Tryz.underlying24 rfl (by kernel_rfl)) rfl ?_
          exact ⟨(S.length : Int), by rw [HS.out]; rfl, (FIN.out m t).2⟩
        · have e2 : ((bs v).toList == [72, 84, 84, 80, 47, 49, 46, 49]) = false := lit_f hv
          have hS : lineS S = (([], []), 400) := by
            rw [HD.out, if_neg]
            exact fun hg => hv hg.2.2.2
          have HS := Lib.hid hS
          clear hS hv
          go_wp2_with fail
          refine bodyPost_ret (results_cell_row_tmq2 (p := 2) (u := 3) (v := 4) (ty := 24) (by kernel_rfl) _ _ w.heap.size 24 #[.string (bs []), .string (bs [])] (0, 0) _ rfl (FIN.out [] []).1 Tryz.underlying24 rfl (by kernel_rfl)) rfl ?_
          exact ⟨(S.length : Int), by rw [HS.out]; rfl, (FIN.out [] []).2⟩
  · rw [if_pos hE0] at hdef
    rw [hdef]
    have e1 : ((E : Int) != 0) = true := by rw [bne_iff_ne]; omega
    clear hdef hE0
    go_enter Tryz.func77, Tryz.ntmps77
    go_wp2_with fail
    (with_reducible refine (CL.out).mono ?_); rintro e w4 ⟨r1, rfl, g4⟩
    have h4 := KX.out.1.trans (g4.mono KX.out.1.size)
    have k4 := KX.out.2.below g4 KX.out.2.lt
    have u0 : w4.cell? ⟨w.heap.size, 0, none⟩ = some (.string ⟨#[]⟩) := k4.cell 0
    have u1 : w4.cell? ⟨w.heap.size, 1, none⟩ = some (.string ⟨#[]⟩) := k4.cell 1
    have f0 := k4.frozen 0
    have f1 := k4.frozen 1
    have H4 := Lib.hid (And.intro h4 k4)
    clear h4 k4 g4
    go_wp2_with fail
    have fin : Blk ((w4.setCell ⟨w.heap.size, 0, none⟩ (.string ⟨#[]⟩)).setCell ⟨w.heap.size, 1, none⟩ (.string ⟨#[]⟩)) w.heap.size 24 #[.string (bs []), .string (bs [])] := by
      have x := (H4.out.2.set_ 0 (.string ⟨#[]⟩)).set_ 1 (.string ⟨#[]⟩)
      have e : ((#[.string ⟨#[]⟩, .string ⟨#[]⟩] : Array Value).setIfInBounds 0 (.string ⟨#[]⟩)).setIfInBounds 1 (.string ⟨#[]⟩) = #[.string (bs []), .string (bs [])] := by simp [bs]
      rw [e] at x
      exact x
    refine bodyPost_ret (results_cell_row_tmq2 (p := 2) (u := 3) (v := 4) (ty := 24) (by kernel_rfl) _ _ w.heap.size 24 #[.string (bs []), .string (bs [])] (0, 0) _ rfl fin Tryz.underlying24 rfl (by kernel_rfl)) rfl ?_
    exact ⟨_, rfl, (H4.out.1.setCell (p := ⟨w.heap.size, 0, none⟩) (Nat.le_refl _) _).setCell (p := ⟨w.heap.size, 1, none⟩) (Nat.le_refl _) _⟩
end Go.Proofs.YtencphfhpnljlaaGreatDoor
