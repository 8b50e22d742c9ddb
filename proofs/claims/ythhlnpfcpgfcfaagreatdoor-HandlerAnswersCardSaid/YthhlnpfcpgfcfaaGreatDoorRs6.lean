/-
  The reader of responses: the lines of fields.
-/
import Derived.Test.YthhlnpfcpgfcfaaGreatDoorRs5
import Derived.Deep.RegionLaw
namespace Go.Proofs.YthhlnpfcpgfcfaaGreatDoor
open Go.RowKit

theorem step_append_run {P : Program} {w w' : World} {ops : Array Oper} {o : Oper} {a : Act} {K : Act → World → Prop} {Q : Exit → Act → World → Prop} {E : Prop} {t : TypeId} {v y v' : Value}
    (hrun : (Builtin.append_ #[t, t] t #[v, y]).run P w = .ok v' w') (hgd : o.guard = none) (s x : Operand)
    (ho : o.op = .call { callee := .builtin .append, args := #[s, x], argTypes := #[t, t] }) (hty : o.type = t) (hs : a.eval s = v) (hx : a.eval x = y)
    (h : K (a.put o.dst v') w') : if Region.wanted o (yielded ops a.tmps) = true then Oper.wp P o a w K Q else E := by
  have hw : Region.wanted o (yielded ops a.tmps) = true := by simp [Region.wanted, hgd]
  rw [if_pos hw]
  unfold Oper.wp execOp
  simp only [ho, resolve, invoke, builtin, Sem.run_bind, Sem.run_pure, Result.andThen_ok, List.map_toArray, List.map_cons, List.map_nil, hs, hx, hty, hrun]
  exact h
theorem Cut_colon (l : List UInt8) (hl : l.length ≤ 1000000) (w : World) (h : MaxL w) :
    Calls Tryz.prog 86 #[.string (bs l), .string ⟨#[58, 32]⟩] w fun e w' => e = .returned (.tuple #[.string (bs (Lib.cut l [58, 32]).1), .string (bs (Lib.cut l [58, 32]).2.1), .bool (Lib.cut l [58, 32]).2.2]) ∧ Below w.heap.size w w' := by
  obtain ⟨m, hm⟩ := h
  exact (Tryz.strings_Cut (bs l) ⟨#[58, 32]⟩ m w (by rw [bs_size]; omega) hm).mono fun e w' ⟨he, n, hw⟩ => ⟨he, by rw [hw]; exact below_drewN (Below.refl _ _) n⟩
/-- how far the fields have come -/
def FdRel (s : List UInt8) (a0 a k : Nat) (fs : List Fld) : Prop := fs.length + k = 32 ∧ a ≤ s.length ∧ fldsP 32 (s.drop a0) = (fs ++ (fldsP k (s.drop a)).1, (fldsP k (s.drop a)).2)
theorem FdRel.start (s : List UInt8) (a : Nat) (ha : a ≤ s.length) : FdRel s a a 32 [] := ⟨rfl, ha, by simp⟩
theorem FdRel.stop {s : List UInt8} {a0 a k : Nat} {fs : List Fld} (h : FdRel s a0 a k fs) (hn : fldsP k (s.drop a) = ([], s.drop a)) : fldsP 32 (s.drop a0) = (fs, s.drop a) ∧ a = s.length - (fldsP 32 (s.drop a0)).2.length := by
  have e := h.2.2
  rw [hn] at e
  simp only [List.append_nil] at e
  refine ⟨e, ?_⟩
  rw [e]
  have := h.2.1
  simp only [List.length_drop]
  omega
theorem FdRel.step {s : List UInt8} {a0 a k : Nat} {fs : List Fld} {f : Fld} {l r : List UInt8} (h : FdRel s a0 a (k + 1) fs) (h1 : lineP (s.drop a) = some (l, r)) (h3 : s.drop a = l ++ 13 :: 10 :: r) (h2 : cutP l = some f) (hm : mayR f = 0) : FdRel s a0 (a + l.length + 2) k (fs ++ [f]) := by
  have hr : s.drop (a + l.length + 2) = r := by
    rw [show a + l.length + 2 = a + (l.length + 2) by omega, ← List.drop_drop, h3, show l.length + 2 = (l ++ [13, 10]).length by simp, show l ++ 13 :: 10 :: r = (l ++ [13, 10]) ++ r by simp, List.drop_left]
  have hlen : a + l.length + 2 ≤ s.length := by
    have := congrArg List.length h3
    rw [List.length_drop] at this
    simp only [List.length_append, List.length_cons] at this
    omega
  refine ⟨by have := h.1; simp; omega, hlen, ?_⟩
  have e := h.2.2
  rw [e, hr, fldsP, h1]
  simp only
  rw [h2]
  simp only
  rw [if_pos hm]
  simp
theorem fldsP_noline {k : Nat} {t : List UInt8} (h : lineP t = none) : fldsP k t = ([], t) := by
  cases k with
  | zero => rfl
  | succ k => rw [fldsP, h]
theorem fldsP_nocut {k : Nat} {t l r : List UInt8} (h : lineP t = some (l, r)) (h2 : cutP l = none) : fldsP k t = ([], t) := by
  cases k with
  | zero => rfl
  | succ k =>
    rw [fldsP, h]
    simp only
    rw [h2]
theorem fldsP_nomay {k : Nat} {t l r : List UInt8} {f : Fld} (h : lineP t = some (l, r)) (h2 : cutP l = some f) (h3 : mayR f ≠ 0) : fldsP k t = ([], t) := by
  cases k with
  | zero => rfl
  | succ k =>
    rw [fldsP, h]
    simp only
    rw [h2]
    simp only
    rw [if_neg h3]
def FieldsPost (g : Nat) (s : List UInt8) (a0 : Nat) (code : Int) (body : ByteArray) (close head : Bool) (W0 : World) (e : Ending) (w' : World) : Prop :=
  ∃ A c, e = .returned (.tuple #[]) ∧ Blk w' g 101 (rC s (s.length - (fldsP 32 (s.drop a0)).2.length) code (.slice A (fldsP 32 (s.drop a0)).1.length c) body close head) ∧
    w'.ownsRow W0.heap.size 57 2 (.slice A (fldsP 32 (s.drop a0)).1.length c) (fldsP 32 (s.drop a0)).1.length (fldsC (fldsP 32 (s.drop a0)).1) ∧ Below W0.heap.size W0 w'
/-- the reader in the midst of its fields -/
def FdSt (g : Nat) (s : List UInt8) (a0 : Nat) (code : Int) (body : ByteArray) (close head : Bool) (W0 : World) (k : Nat) (wr : World) : Prop :=
  ∃ A c a fs, FdRel s a0 a k fs ∧ Blk wr g 101 (rC s a code (.slice A fs.length c) body close head) ∧ wr.ownsRow W0.heap.size 57 2 (.slice A fs.length c) fs.length (fldsC fs) ∧ Below W0.heap.size W0 wr
set_option maxRecDepth 100000 in
set_option maxHeartbeats 8000000 in
theorem pFieldsR (s : List UInt8) (a : Nat) (code : Int) (body : ByteArray) (close head : Bool) (g : Nat) (w W0 : World) (hs : s.length ≤ 1000000) (ha : a ≤ s.length) (hB : Blk w g 101 (rC s a code (.slice none 0 0) body close head)) (ht : TabR W0) (hm : MaxL W0) (h0 : Below W0.heap.size W0 w) (hg0 : W0.heap.size ≤ g) :
    Calls Tryz.prog 60 #[.pointer (some ⟨g, 0, none⟩)] w (FieldsPost g s a code body close head W0) := by
  have hSt : FdSt g s a code body close head W0 32 w := ⟨none, 0, a, [], FdRel.start s a ha, hB, World.ownsRow_nil _ _ _ _, h0⟩
  have HS := Lib.hid hSt
  have HT := Lib.hid ht
  have HM := Lib.hid hm
  clear hSt hB h0 ht hm
  go_enter Tryz.func60, Tryz.ntmps60
  go_wp2_with fail
  go_loopg [] 32 (fun kx wr => Hid (FdSt g s a code body close head W0 kx wr))
  case atStart => exact HS
  case round =>
    rename World => wr
    obtain ⟨A, c, b, fs, hR, hB, hO, h0⟩ := hrel.out
    have hk := hR.1
    have hbl := hR.2.1
    have c3 : wr.cell? ⟨g, 3, none⟩ = some (.slice A fs.length c) := hB.cell 3
    have HB := Lib.hid hB
    have HO := Lib.hid hO
    have H0 := Lib.hid h0
    have HR := Lib.hid hR
    have cN := pNext s b g wr hs hbl (hB.cell 0) (hB.cell 1) (HM.out.below h0)
    clear hB hO h0 hR hrel HS
    cases gk with
    | zero =>
      have hd : decide ((fs.length : Int) < 32) = false := by simp; omega
      have hst := HR.out.stop (rfl : fldsP 0 (s.drop b) = _)
      have HST := Lib.hid hst
      clear cN hst
      go_wp2_with fail
      try first | go_end0 | (refine bodyPost_ret (results_none rfl _ _ _) rfl ?_)
      refine ⟨A, c, rfl, ?_, ?_, H0.out⟩
      · rw [← HST.out.2, HST.out.1]; exact HB.out
      · rw [HST.out.1]; exact HO.out
    | succ k =>
      have hd : decide ((fs.length : Int) < 32) = true := by simp; omega
      rcases lineP_cases (s.drop b) with ⟨h1, h2⟩ | ⟨l, r, h1, h2, h3⟩
      · rw [h1] at cN
        have CN := Lib.hid cN
        have HST := Lib.hid (HR.out.stop (fldsP_noline (k := k + 1) h1))
        clear cN h1 h2
        go_wp2_with fail
        (with_reducible refine (CN.out).mono ?_); rintro e w1 ⟨rfl, g1⟩
        have h01 := H0.out.trans (g1.mono H0.out.size)
        have CC := Lib.hid (Cut_colon [] (by simp) w1 (HM.out.below h01))
        have B1 := Lib.hid (HB.out.below g1 HB.out.lt)
        have O1 := Lib.hid (own_below HO.out g1)
        have H1 := Lib.hid h01
        have ec : Lib.cut [] [58, 32] = (([] : List UInt8), ([] : List UInt8), false) := by decide
        rw [ec, show bs [] = (⟨#[]⟩ : ByteArray) from rfl] at CC
        clear g1 h01 ec CN
        go_wp2_with fail
        (with_reducible refine (CC.out).mono ?_); rintro e w2 ⟨rfl, g2⟩
        have g3 := g2.alloc g2.size (.cells #[.string ⟨#[]⟩, .string ⟨#[]⟩] 57)
        have B2 := Lib.hid (B1.out.below g3 B1.out.lt)
        have O2 := Lib.hid (own_below O1.out g3)
        have H2 := Lib.hid (H1.out.trans (g3.mono H1.out.size))
        clear g2 g3 CC
        go_wp2_with fail
        try first | go_end0 | (refine bodyPost_ret (results_none rfl _ _ _) rfl ?_)
        refine ⟨A, c, rfl, ?_, ?_, H2.out⟩
        · rw [← HST.out.2, HST.out.1]; exact B2.out
        · rw [HST.out.1]; exact O2.out
      · rw [h1] at cN
        have CN := Lib.hid cN
        have hlen : b + l.length + 2 ≤ s.length := by
          have := congrArg List.length h3
          rw [List.length_drop] at this
          simp only [List.length_append, List.length_cons] at this
          omega
        have HLN := Lib.hid (And.intro h1 h3)
        rcases cutP_cases l with ⟨q1, q2⟩ | ⟨nm, vl, q1, q2, q3⟩
        · have HST := Lib.hid (HR.out.stop (fldsP_nocut (k := k + 1) h1 q1))
          clear cN h1 h2 h3 q1
          go_wp2_with fail
          (with_reducible refine (CN.out).mono ?_); rintro e w1 ⟨rfl, g1⟩
          have h01 := H0.out.trans (g1.mono H0.out.size)
          have CC := Lib.hid (Cut_colon l (by omega) w1 (HM.out.below h01))
          have B1 := Lib.hid (HB.out.below g1 HB.out.lt)
          have O1 := Lib.hid (own_below HO.out g1)
          have H1 := Lib.hid h01
          rw [q2] at CC
          clear g1 h01 CN q2
          go_wp2_with fail
          (with_reducible refine (CC.out).mono ?_); rintro e w2 ⟨rfl, g2⟩
          have g3 := g2.alloc g2.size (.cells #[.string (bs l), .string (bs [])] 57)
          have B2 := Lib.hid (B1.out.below g3 B1.out.lt)
          have O2 := Lib.hid (own_below O1.out g3)
          have H2 := Lib.hid (H1.out.trans (g3.mono H1.out.size))
          clear g2 g3 CC
          go_wp2_with fail
          try first | go_end0 | (refine bodyPost_ret (results_none rfl _ _ _) rfl ?_)
          refine ⟨A, c, rfl, ?_, ?_, H2.out⟩
          · rw [← HST.out.2, HST.out.1]; exact B2.out
          · rw [HST.out.1]; exact O2.out
        · have hnl : nm.length + vl.length + 2 = l.length := by rw [q3]; simp; omega
          go_wp2_with fail
          (with_reducible refine (CN.out).mono ?_); rintro e w1 ⟨rfl, g1⟩
          have h01 := H0.out.trans (g1.mono H0.out.size)
          have CC := Lib.hid (Cut_colon l (by omega) w1 (HM.out.below h01))
          have B1 := Lib.hid (HB.out.below g1 HB.out.lt)
          have O1 := Lib.hid (own_below HO.out g1)
          have H1 := Lib.hid h01
          rw [q2] at CC
          have HQ := Lib.hid q1
          clear g1 h01 CN q2 cN h1 h2 h3 q1 q3
          go_wp2_with fail
          (with_reducible refine (CC.out).mono ?_); rintro e w2 ⟨rfl, g2⟩
          have g3 := g2.alloc g2.size (.cells #[.string (bs nm), .string (bs vl)] 57)
          have B2 := Lib.hid (B1.out.below g3 B1.out.lt)
          have O2 := Lib.hid (own_below O1.out g3)
          have H2 := Lib.hid (H1.out.trans (g3.mono H1.out.size))
          have N2 := Lib.hid (Blk.new w2 57 #[.string (bs nm), .string (bs vl)])
          have CM := Lib.hid (pMayR (nm, vl) (w2.alloc (.cells #[.string (bs nm), .string (bs vl)] 57)) (by show nm.length ≤ _; omega) (by show vl.length ≤ _; omega) (HT.out.spaces.below H2.out))
          clear g3 CC c3
          by_cases hm0 : mayR (nm, vl) = 0
          · have hst := HR.out.step HLN.out.1 HLN.out.2 HQ.out hm0
            rw [hm0] at CM
            have HST := Lib.hid hst
            have n0 : (Value.slice A fs.length c).ownBlock ≠ some w2.heap.size := by
              intro e
              have := (O1.out.lt _ e).2
              have hg2 := g2.size
              omega
            clear hm0 hst
            go_wp2_with fail
            (with_reducible refine (CM.out).mono ?_); rintro e w4 ⟨rfl, g4⟩
            have b3 := B2.out.below g4 B2.out.lt
            have o3 := own_below O2.out g4
            have h3 := H2.out.trans (g4.mono H2.out.size)
            have k3 := N2.out.below g4 N2.out.lt
            have hbase : W0.heap.size ≤ w4.drew.heap.size := h3.size
            obtain ⟨v', w5, hrun, hown, hbel, hgr⟩ := app_fldR (base := W0.heap.size) (W := w4.drew) (v := .slice A fs.length c) (xs := fs) o3 hbase (by omega) (nm, vl)
            have hrun' : (Builtin.append_ #[22, 22] 22 #[.slice A fs.length c, .slice (some ⟨w4.heap.size, 0, none⟩) 1 1]).run Tryz.prog (w4.alloc (.cells #[.string (bs nm), .string (bs vl)] 57)).drew = .ok v' w5 := hrun
            have hgne : some g ≠ (Value.slice A fs.length c).ownBlock := fun e => own_blk_ne (e := 57) o3 b3 (by decide) e.symm
            have b5 := (Blk.drew b3).grown hgr hgne
            have k5 := (Blk.drew k3).grown hgr (fun e => n0 e.symm)
            obtain ⟨F, hF⟩ : ∃ F, fs ++ [(nm, vl)] = F := ⟨_, rfl⟩
            rw [hF] at hown
            have HFQ := Lib.hid hF
            clear hF
            obtain ⟨A', c', rfl⟩ := own_slice hown
            have b6 := b5.set_ 3 (.slice A' F.length c')
            have e6 : (rC s b code (.slice A fs.length c) body close head).setIfInBounds 3 (.slice A' F.length c') = rC s b code (.slice A' F.length c') body close head := by simp [rC]
            rw [e6] at b6
            have o6 : (w5.setCell ⟨g, 3, none⟩ (.slice A' F.length c')).ownsRow W0.heap.size 57 2 (.slice A' F.length c') F.length (fldsC F) :=
              hown.kept (Lib.grownBy_setB (World.grownBy.refl w5 (some g)) 3 _) (.inr (own_blk_ne (e := 57) hown b5 (by decide)))
            have h6 : Below W0.heap.size W0 (w5.setCell ⟨g, 3, none⟩ (.slice A' F.length c')) := ((h3.drew).trans hbel).setCell hg0 _
            have CP := Lib.hid (pPass s b code (.slice A' F.length c') body close head l g _ hs hlen b6)
            have HX := Lib.hid (And.intro o6 (And.intro h6 (own_blk_ne (e := 57) o6 b6 (by decide))))
            have HRUN := Lib.hid hrun'
            have p3 : w4.cell? ⟨g, 3, none⟩ = some (.slice A fs.length c) := b3.cell 3
            have p0 : w4.cell? ⟨w2.heap.size, 0, none⟩ = some (.string (bs nm)) := k3.cell 0
            have p1 : w4.cell? ⟨w2.heap.size, 1, none⟩ = some (.string (bs vl)) := k3.cell 1
            have q3 : w5.cell? ⟨g, 3, none⟩ = some (.slice A fs.length c) := b5.cell 3
            have q0 : w5.cell? ⟨w2.heap.size, 0, none⟩ = some (.string (bs nm)) := k5.cell 0
            have q1 : w5.cell? ⟨w2.heap.size, 1, none⟩ = some (.string (bs vl)) := k5.cell 1
            have q4 : w5.frozen? ⟨g, 3, none⟩ = false := b5.frozen 3
            have p5 : (w4.alloc (.cells #[.string (bs nm), .string (bs vl)] 57)).cell? ⟨g, 3, none⟩ = some (.slice A fs.length c) := (b3.alloc _).cell 3
            have n1 : ¬ (g = w4.heap.size) := Nat.ne_of_lt b3.lt
            have n2 : ¬ (w2.heap.size = w4.heap.size) := Nat.ne_of_lt k3.lt
            have n3 : ¬ (w4.heap.size = g) := fun e => n1 e.symm
            have n4 : ¬ (w4.heap.size = w2.heap.size) := fun e => n2 e.symm
            clear g4 b3 o3 h3 k3 hbase hrun hown hbel hgr hrun' hgne b5 k5 b6 e6 o6 h6 n0 g2
            go_wp2_with fail
            go_region_law ((refine step_append_run HRUN.out (by rfl) _ _ (by rfl) (by rfl) (by rfl) (by rfl) ?_))
            all_goals go_wp2_with fail
            all_goals (
              (with_reducible refine (CP.out).mono ?_); rintro e w7 ⟨rfl, k7, g7⟩
              go_wp2_with fail
              go_roundg k
              case measure => omega
              case rel => exact hide ⟨A', c', _, F, (by rw [← HFQ.out]; exact HST.out), k7, HX.out.1.kept g7 (.inr HX.out.2.2), Wrel HX.out.2.1 g7 HX.out.2.1.size hg0⟩)
          · have HST := Lib.hid (HR.out.stop (fldsP_nomay (k := k + 1) HLN.out.1 HQ.out hm0))
            have hne : ((mayR (nm, vl) : Int) != 0) = true := by rw [bne_iff_ne]; omega
            obtain ⟨E, hE⟩ : ∃ E, mayR (nm, vl) = E := ⟨_, rfl⟩
            rw [hE] at hne CM
            clear hm0 hE g2
            go_wp2_with fail
            (with_reducible refine (CM.out).mono ?_); rintro e w4 ⟨rfl, g4⟩
            have B3 := Lib.hid (B2.out.below g4 B2.out.lt)
            have O3 := Lib.hid (own_below O2.out g4)
            have H3 := Lib.hid (H2.out.trans (g4.mono H2.out.size))
            clear g4 CM
            go_wp2_with fail
            try first | go_end0 | (refine bodyPost_ret (results_none rfl _ _ _) rfl ?_)
            refine ⟨A, c, rfl, ?_, ?_, H3.out⟩
            · rw [← HST.out.2, HST.out.1]; exact B3.out
            · rw [HST.out.1]; exact O3.out
end Go.Proofs.YthhlnpfcpgfcfaaGreatDoor
