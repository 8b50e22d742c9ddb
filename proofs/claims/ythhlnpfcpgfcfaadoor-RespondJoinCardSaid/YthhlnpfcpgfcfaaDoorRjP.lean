/-
  Responses read and copied: what the new lists of fields own.
-/
import Derived.Test.YthhlnpfcpgfcfaaDoorRb0
import Derived.Test.YthhlnpfcpgfcfaaDoorAw12
namespace Go.Proofs.YthhlnpfcpgfcfaaDoor
open Go.RowKit

theorem own_leJ {w : World} {base base' size n : Nat} {e : TypeId} {v : Value} {xs : List Value} (h : w.ownsRow base e size v n xs) (hb : base' ≤ base) : w.ownsRow base' e size v n xs :=
  ⟨h.1, h.2.imp id fun ⟨g, cap, cur, e1, hg, r⟩ => ⟨g, cap, cur, e1, Nat.le_trans hb hg, r⟩⟩
def ParseOwn (h : Bool) (s : List UInt8) (w : World) (e : Ending) (w' : World) : Prop :=
  match parseA h s with
  | (some (r, u), _) => ∃ A c, e = .returned (.tuple #[rspV r A r.flds.length c, .int .i64 (u : Int), .agg #[.int .i64 0, .int .i64 0]]) ∧ w'.ownsRow w.heap.size 47 2 (.slice A r.flds.length c) r.flds.length (fldsC r.flds) ∧ r.flds.length ≤ c ∧ Below w.heap.size w w'
  | (none, k) => e = .returned (.tuple #[rspV noRsp none 0 0, .int .i64 0, .agg #[.int .i64 3, .int .i64 (k : Int)]]) ∧ Below w.heap.size w w'
theorem parse_backO {r : Rsp} {s : List UInt8} {w : World} (hc : checkR r = 0) (more : List UInt8) (hs : s = textR r ++ more) {h : Bool} (hh : r.head = h) :
    ParseOwn h s w = fun e w' => ∃ A c, e = .returned (.tuple #[rspV (backR r) A r.flds.length c, .int .i64 ((textR r).length : Nat), .agg #[.int .i64 0, .int .i64 0]]) ∧ w'.ownsRow w.heap.size 47 2 (.slice A r.flds.length c) r.flds.length (fldsC r.flds) ∧ r.flds.length ≤ c ∧ Below w.heap.size w w' := by
  subst hh
  funext e w'
  unfold ParseOwn
  rw [hs, parseA_text r hc more]
  rfl
def OwnPostO (r : Rsp) (w : World) (e : Ending) (w' : World) : Prop := ∃ B d, e = .returned (rspV r B r.flds.length d) ∧ r.flds.length ≤ d ∧ w'.ownsRow w.heap.size 47 2 (.slice B r.flds.length d) r.flds.length (fldsC r.flds) ∧ Below w.heap.size w w'
set_option maxRecDepth 100000 in
set_option maxHeartbeats 4000000 in
theorem pOwn12O (r : Rsp) (A : Option Addr) (n c : Nat) (w : World) (hr : Reads w w.heap.size 2 A n (fldsC r.flds)) (hn : n ≤ 1000000) :
    Calls Tryd.prog 13 #[rspV r A n c] w (OwnPostO r w) := by
  obtain rfl := hr.flen
  obtain ⟨code, flds, body, close, head⟩ := r
  unfold rspV
  simp only at *
  obtain ⟨i0, hi, hz0, hz1, hz2⟩ := info_parts infoFldR
  have bX : Below w.heap.size w ((w.alloc (.cells #[.int .i64 code, .slice A flds.length c, .string (bs body), .bool close, .bool head] 24)).alloc (.cells #[.int .i64 0, .slice none 0 0, .string ⟨#[]⟩, .bool false, .bool false] 24)) := ((Below.refl _ _).alloc (Nat.le_refl _) _).alloc (by simp) _
  have kX := (Blk.new w 24 #[.int .i64 code, .slice A flds.length c, .string (bs body), .bool close, .bool head]).alloc (.cells #[.int .i64 0, .slice none 0 0, .string ⟨#[]⟩, .bool false, .bool false] 24)
  have kZ := Blk.new (w.alloc (.cells #[.int .i64 code, .slice A flds.length c, .string (bs body), .bool close, .bool head] 24)) 24 #[.int .i64 0, .slice none 0 0, .string ⟨#[]⟩, .bool false, .bool false]
  rw [show (w.alloc (.cells #[.int .i64 code, .slice A flds.length c, .string (bs body), .bool close, .bool head] 24)).heap.size = w.heap.size + 1 by simp] at kZ
  have hSz : ((w.alloc (.cells #[.int .i64 code, .slice A flds.length c, .string (bs body), .bool close, .bool head] 24)).alloc (.cells #[.int .i64 0, .slice none 0 0, .string ⟨#[]⟩, .bool false, .bool false] 24)).heap.size = w.heap.size + 1 + 1 := by simp
  have hown := World.ownsRow_made (base := w.heap.size) (e := 47) (size := 2) ((w.alloc (.cells #[.int .i64 code, .slice A flds.length c, .string (bs body), .bool close, .bool head] 24)).alloc (.cells #[.int .i64 0, .slice none 0 0, .string ⟨#[]⟩, .bool false, .bool false] 24)) #[] 0 (by simp; omega) (Nat.zero_le _) rfl
  have hr2 := ((hr.below bX).more bX.size).alloc (Nat.le_refl _) (.cells #[] 47)
  rw [hSz] at hown
  have hb1 : (0 + flds.length) ≤ maxLen := by unfold maxLen; omega
  have hb2 : (0 + flds.length) * 32 ≤ 140737488355328 := by omega
  obtain ⟨v', w5, hrun, ho, hg, _⟩ := run_append_any (P := Tryd.prog) _ w.heap.size 22 22 47 i0 (.agg #[.string .empty, .string .empty]) 2 32 Tryd.underlying22 hi hz0 hz1 hz2 rfl (by decide) _ 0 [] hown _ A flds.length c (fldsC flds) hr2 (fldsC_one flds) hb1 hb2 (by simp; omega)
  rw [List.nil_append, Nat.zero_add] at ho
  obtain ⟨B, d, rfl⟩ := own_slice ho
  have hnd := own_capR ho
  have kX5 := (kX.alloc (.cells #[] 47)).grown hg (by simp [Value.ownBlock]; omega)
  have kZ5 := (kZ.alloc (.cells #[] 47)).grown hg (by simp [Value.ownBlock])
  have bX5 : Below w.heap.size w w5 := (bX.alloc (by simp; omega) (.cells #[] 47)).grown hg (by simp; omega) (fun k e => by simp [Value.ownBlock] at e; omega)
  have f1 := kX5.frozen 1
  have x1 : w5.cell? ⟨w.heap.size, 1, none⟩ = some (.slice A flds.length c) := kX5.cell 1
  have kX6 := kX5.set_ 1 (.slice B flds.length d)
  have eX : (#[.int .i64 code, .slice A flds.length c, .string (bs body), .bool close, .bool head] : Array Value).setIfInBounds 1 (.slice B flds.length d) = #[.int .i64 code, .slice B flds.length d, .string (bs body), .bool close, .bool head] := by simp
  rw [eX] at kX6
  have kZ6 := kZ5.far (p := ⟨w.heap.size, 1, none⟩) (by show w.heap.size + 1 ≠ w.heap.size; omega) (.slice B flds.length d)
  have ho6 := ho.kept (Lib.grownBy_setB (World.grownBy.refl w5 (some w.heap.size)) 1 (.slice B flds.length d)) (.inr (own_blk_ne (e := 47) ho kX5 (by decide)))
  have bX6 := bX5.setCell (p := ⟨w.heap.size, 1, none⟩) (Nat.le_refl _) (.slice B flds.length d)
  have HRUN := Lib.hid hrun
  have kR := blk5 kZ6 (.int .i64 code) (.slice B flds.length d) (.string (bs body)) (.bool close) (.bool head)
  have KR := Lib.hid kR
  have HX := Lib.hid (And.intro kX6 (And.intro kZ6 (And.intro ho6 bX6)))
  have HND := Lib.hid hnd
  have c0 : (w5.setCell ⟨w.heap.size, 1, none⟩ (.slice B flds.length d)).cell? ⟨w.heap.size, 0, none⟩ = some (.int .i64 code) := kX6.cell 0
  have c1 : (w5.setCell ⟨w.heap.size, 1, none⟩ (.slice B flds.length d)).cell? ⟨w.heap.size, 1, none⟩ = some (.slice B flds.length d) := kX6.cell 1
  have c2 : (w5.setCell ⟨w.heap.size, 1, none⟩ (.slice B flds.length d)).cell? ⟨w.heap.size, 2, none⟩ = some (.string (bs body)) := kX6.cell 2
  have c3 : (w5.setCell ⟨w.heap.size, 1, none⟩ (.slice B flds.length d)).cell? ⟨w.heap.size, 3, none⟩ = some (.bool close) := kX6.cell 3
  have c4 : (w5.setCell ⟨w.heap.size, 1, none⟩ (.slice B flds.length d)).cell? ⟨w.heap.size, 4, none⟩ = some (.bool head) := kX6.cell 4
  have z0 : (w5.setCell ⟨w.heap.size, 1, none⟩ (.slice B flds.length d)).cell? ⟨w.heap.size + 1, 0, none⟩ = some (.int .i64 0) := kZ6.cell 0
  have z1 : (w5.setCell ⟨w.heap.size, 1, none⟩ (.slice B flds.length d)).cell? ⟨w.heap.size + 1, 1, none⟩ = some (.slice none 0 0) := kZ6.cell 1
  have z2 : (w5.setCell ⟨w.heap.size, 1, none⟩ (.slice B flds.length d)).cell? ⟨w.heap.size + 1, 2, none⟩ = some (.string ⟨#[]⟩) := kZ6.cell 2
  have z3 : (w5.setCell ⟨w.heap.size, 1, none⟩ (.slice B flds.length d)).cell? ⟨w.heap.size + 1, 3, none⟩ = some (.bool false) := kZ6.cell 3
  have z4 : (w5.setCell ⟨w.heap.size, 1, none⟩ (.slice B flds.length d)).cell? ⟨w.heap.size + 1, 4, none⟩ = some (.bool false) := kZ6.cell 4
  have q0 := kZ5.frozen 0
  have q1 := kZ5.frozen 1
  have q2 := kZ5.frozen 2
  have q3 := kZ5.frozen 3
  have q4 := kZ5.frozen 4
  clear hi hz0 hz1 hz2 bX kX kZ hSz hown hr2 hb1 hb2 hrun ho hg hnd kX5 kZ5 bX5 kX6 eX kZ6 ho6 bX6 kR hr
  go_enter Tryd.func13, Tryd.ntmps13
  go_wp2_with (at_builtin; refine wpList_append_run HRUN.out rfl _ _ rfl rfl rfl rfl ?_)
  refine bodyPost_ret (results_cell1 (p := 2) (ty := 24) (by kernel_rfl) _ _ (w.heap.size + 1) _ rfl (ld5' KR.out rfl)) rfl ?_
  exact ⟨B, d, rfl, HND.out,
    (HX.out.2.2.1.kept (Lib.grownBy_setB (Lib.grownBy_setB (Lib.grownBy_setB (Lib.grownBy_setB (Lib.grownBy_setB (World.grownBy.refl _ (some (w.heap.size + 1))) 0 _) 1 _) 2 _) 3 _) 4 _) (.inr (own_blk_ne (e := 47) HX.out.2.2.1 HX.out.2.1 (by decide)))),
    ((((HX.out.2.2.2.setCell (p := ⟨w.heap.size + 1, 0, none⟩) (Nat.le_succ _) _).setCell (p := ⟨w.heap.size + 1, 1, none⟩) (Nat.le_succ _) _).setCell (p := ⟨w.heap.size + 1, 2, none⟩) (Nat.le_succ _) _).setCell (p := ⟨w.heap.size + 1, 3, none⟩) (Nat.le_succ _) _).setCell (p := ⟨w.heap.size + 1, 4, none⟩) (Nat.le_succ _) _⟩
set_option maxRecDepth 100000 in
set_option maxHeartbeats 16000000 in
theorem pParseO (s : List UInt8) (h : Bool) (w : World) (hs : s.length ≤ 1000000) (ht : TabR w) (hm : MaxL w) (hE : Errs w) :
    Calls Tryd.prog 15 #[.string (bs s), .bool h] w (ParseOwn h s w) := by
  have b0 : Below w.heap.size w ((w.alloc (.cells #[.int .i64 0, .slice none 0 0, .string ⟨#[]⟩, .bool false, .bool false] 24)).alloc (.cells #[.int .i64 0, .int .i64 0] 33)) := ((Below.refl _ _).alloc (Nat.le_refl _) _).alloc (by simp) _
  have k0 := (Blk.new w 24 #[.int .i64 0, .slice none 0 0, .string ⟨#[]⟩, .bool false, .bool false]).alloc (.cells #[.int .i64 0, .int .i64 0] 33)
  have k1 := Blk.new (w.alloc (.cells #[.int .i64 0, .slice none 0 0, .string ⟨#[]⟩, .bool false, .bool false] 24)) 33 #[.int .i64 0, .int .i64 0]
  rw [show (w.alloc (.cells #[.int .i64 0, .slice none 0 0, .string ⟨#[]⟩, .bool false, .bool false] 24)).heap.size = w.heap.size + 1 by simp] at k1
  have B0 := Lib.hid b0
  have K0 := Lib.hid k0
  have K1 := Lib.hid k1
  have HT := Lib.hid (ht.below b0)
  have HM := Lib.hid (hm.below b0)
  have HE := Lib.hid (hE.below b0)
  clear b0 k0 k1 ht hm hE
  have k2 : Blk ((((w.alloc (.cells #[.int .i64 0, .slice none 0 0, .string ⟨#[]⟩, .bool false, .bool false] 24)).alloc (.cells #[.int .i64 0, .int .i64 0] 33)).alloc (.cells #[.string (bs s), .int .i64 0, .int .i64 0, .slice none 0 0, .string ⟨#[]⟩, .bool false, .bool h] 95))) (w.heap.size + 1 + 1) 95 (rC s 0 0 (.slice none 0 0) ⟨#[]⟩ false h) := by
    have := Blk.new ((w.alloc (.cells #[.int .i64 0, .slice none 0 0, .string ⟨#[]⟩, .bool false, .bool false] 24)).alloc (.cells #[.int .i64 0, .int .i64 0] 33)) 95 #[.string (bs s), .int .i64 0, .int .i64 0, .slice none 0 0, .string ⟨#[]⟩, .bool false, .bool h]
    rw [show ((w.alloc (.cells #[.int .i64 0, .slice none 0 0, .string ⟨#[]⟩, .bool false, .bool false] 24)).alloc (.cells #[.int .i64 0, .int .i64 0] 33)).heap.size = w.heap.size + 1 + 1 by simp] at this
    exact this
  have cC := pCode s 0 0 (.slice none 0 0) ⟨#[]⟩ false h (w.heap.size + 1 + 1) _ _ hs (by omega) k2 HT.out HM.out ((Below.refl _ _).alloc (Nat.le_refl _) _)
  have CC := Lib.hid cC
  have hW0 : ((w.alloc (.cells #[.int .i64 0, .slice none 0 0, .string ⟨#[]⟩, .bool false, .bool false] 24)).alloc (.cells #[.int .i64 0, .int .i64 0] 33)).heap.size = w.heap.size + 1 + 1 := by simp
  have hA : ∀ X, ((((w.alloc (.cells #[.int .i64 0, .slice none 0 0, .string ⟨#[]⟩, .bool false, .bool false] 24)).alloc (.cells #[.int .i64 0, .int .i64 0] 33)).alloc (.cells #[.string (bs s), .int .i64 0, .int .i64 0, .slice none 0 0, .string ⟨#[]⟩, .bool false, .bool h] 95))).grownBy X (some (w.heap.size + 1 + 1)) → Below ((w.alloc (.cells #[.int .i64 0, .slice none 0 0, .string ⟨#[]⟩, .bool false, .bool false] 24)).alloc (.cells #[.int .i64 0, .int .i64 0] 33)).heap.size ((w.alloc (.cells #[.int .i64 0, .slice none 0 0, .string ⟨#[]⟩, .bool false, .bool false] 24)).alloc (.cells #[.int .i64 0, .int .i64 0] 33)) X := fun X hX => Wrel ((Below.refl _ _).alloc (Nat.le_refl _) _) hX (by simp) (by rw [hW0]; exact Nat.le_refl _)
  have HA := Lib.hid hA
  clear hA k2 cC
  generalize hWW : ((w.alloc (.cells #[.int .i64 0, .slice none 0 0, .string ⟨#[]⟩, .bool false, .bool false] 24)).alloc (.cells #[.int .i64 0, .int .i64 0] 33)) = W0 at B0 K0 K1 HT HM HE hW0 HA
  have HWW := Lib.hid hWW
  have HW0 := Lib.hid hW0
  clear hWW hW0
  cases q1 : lineP (s.drop 0) with
  | none =>
    have eA : parseA h s = (none, 0) := by unfold parseA; rw [q1]
    have eP : ParseOwn h s w = fun e w' => e = .returned (.tuple #[rspV noRsp none 0 0, .int .i64 0, .agg #[.int .i64 3, .int .i64 ((0 : Nat) : Int)]]) ∧ Below w.heap.size w w' := by
      funext e w'; unfold ParseOwn; rw [eA]
    rw [eP]
    clear eP eA
    rw [q1] at CC
    clear q1
    go_enter Tryd.func15, Tryd.ntmps15
    go_wp2_with fail
    (with_reducible refine (CC.out).mono ?_); rintro e w3 ⟨rfl, b3, g3⟩
    rw [HWW.out] at g3
    have H := Lib.hid (HA.out _ g3)
    have B := Lib.hid b3
    clear b3 g3 CC
    have kr := K0.out.below H.out K0.out.lt
    have kf := K1.out.below H.out K1.out.lt
    have p0 : w3.cell? ⟨w.heap.size, 0, none⟩ = some (.int .i64 0) := kr.cell 0
    have p1 : w3.cell? ⟨w.heap.size, 1, none⟩ = some (.slice none 0 0) := kr.cell 1
    have p2 : w3.cell? ⟨w.heap.size, 2, none⟩ = some (.string ⟨#[]⟩) := kr.cell 2
    have p3 : w3.cell? ⟨w.heap.size, 3, none⟩ = some (.bool false) := kr.cell 3
    have p4 : w3.cell? ⟨w.heap.size, 4, none⟩ = some (.bool false) := kr.cell 4
    have f0 := kr.frozen 0
    have f1 := kr.frozen 1
    have f2 := kr.frozen 2
    have f3 := kr.frozen 3
    have f4 := kr.frozen 4
    have r0 : w3.cell? ⟨w.heap.size + 1, 0, none⟩ = some (.int .i64 0) := kf.cell 0
    have r1 : w3.cell? ⟨w.heap.size + 1, 1, none⟩ = some (.int .i64 0) := kf.cell 1
    have s0 := kf.frozen 0
    have s1 := kf.frozen 1
    have a1 : w3.cell? ⟨w.heap.size + 1 + 1, 1, none⟩ = some (.int .i64 ((0 : Nat) : Int)) := B.out.cell 1
    have KF := Lib.hid (fin_chain kr kf (by omega) (.int .i64 0) (.slice none 0 0) (.string ⟨#[]⟩) (.bool false) (.bool false) (.int .i64 3) (.int .i64 ((0 : Nat) : Int)))
    have HB := Lib.hid (B0.out.trans (H.out.mono (by rw [HW0.out]; omega)))
    clear kr kf
    go_wp2_with fail
    go_region
    all_goals go_wp2_with fail
    all_goals (
      refine bodyPost_ret (results_cell_tmp_cell (p := 4) (t := 5) (q := 6) (ty := 24) (ty2 := 33) (by kernel_rfl) _ _ w.heap.size (w.heap.size + 1) _ _ _ rfl (ld5 KF.out.1 rfl) rfl rfl (ld2 KF.out.2.1 rfl)) rfl ?_
      exact ⟨rfl, KF.out.2.2 _ _ (Nat.le_refl _) (by omega) HB.out⟩)
  | some x =>
    rw [q1] at CC
    simp only at CC
    have ha1 := first_len q1
    cases q2 : codeP x.1 with
    | none =>
      have eA : parseA h s = (none, 0) := by unfold parseA; rw [q1]; simp only; rw [q2]
      have eP : ParseOwn h s w = fun e w' => e = .returned (.tuple #[rspV noRsp none 0 0, .int .i64 0, .agg #[.int .i64 3, .int .i64 ((0 : Nat) : Int)]]) ∧ Below w.heap.size w w' := by
        funext e w'; unfold ParseOwn; rw [eA]
      rw [eP]
      clear eP eA
      rw [q2] at CC
      clear q1 q2
      go_enter Tryd.func15, Tryd.ntmps15
      go_wp2_with fail
      (with_reducible refine (CC.out).mono ?_); rintro e w3 ⟨rfl, b3, g3⟩
      rw [HWW.out] at g3
      have H := Lib.hid (HA.out _ g3)
      have B := Lib.hid b3
      clear b3 g3 CC
      have kr := K0.out.below H.out K0.out.lt
      have kf := K1.out.below H.out K1.out.lt
      have p0 : w3.cell? ⟨w.heap.size, 0, none⟩ = some (.int .i64 0) := kr.cell 0
      have p1 : w3.cell? ⟨w.heap.size, 1, none⟩ = some (.slice none 0 0) := kr.cell 1
      have p2 : w3.cell? ⟨w.heap.size, 2, none⟩ = some (.string ⟨#[]⟩) := kr.cell 2
      have p3 : w3.cell? ⟨w.heap.size, 3, none⟩ = some (.bool false) := kr.cell 3
      have p4 : w3.cell? ⟨w.heap.size, 4, none⟩ = some (.bool false) := kr.cell 4
      have f0 := kr.frozen 0
      have f1 := kr.frozen 1
      have f2 := kr.frozen 2
      have f3 := kr.frozen 3
      have f4 := kr.frozen 4
      have r0 : w3.cell? ⟨w.heap.size + 1, 0, none⟩ = some (.int .i64 0) := kf.cell 0
      have r1 : w3.cell? ⟨w.heap.size + 1, 1, none⟩ = some (.int .i64 0) := kf.cell 1
      have s0 := kf.frozen 0
      have s1 := kf.frozen 1
      have a1 : w3.cell? ⟨w.heap.size + 1 + 1, 1, none⟩ = some (.int .i64 ((0 : Nat) : Int)) := B.out.cell 1
      have KF := Lib.hid (fin_chain kr kf (by omega) (.int .i64 0) (.slice none 0 0) (.string ⟨#[]⟩) (.bool false) (.bool false) (.int .i64 3) (.int .i64 ((0 : Nat) : Int)))
      have HB := Lib.hid (B0.out.trans (H.out.mono (by rw [HW0.out]; omega)))
      clear kr kf
      go_wp2_with fail
      go_region
      all_goals go_wp2_with fail
      all_goals (
        refine bodyPost_ret (results_cell_tmp_cell (p := 4) (t := 5) (q := 6) (ty := 24) (ty2 := 33) (by kernel_rfl) _ _ w.heap.size (w.heap.size + 1) _ _ _ rfl (ld5 KF.out.1 rfl) rfl rfl (ld2 KF.out.2.1 rfl)) rfl ?_
        exact ⟨rfl, KF.out.2.2 _ _ (Nat.le_refl _) (by omega) HB.out⟩)
    | some c =>
      rw [q2] at CC
      simp only at CC
      obtain ⟨fs, hfs⟩ : ∃ fs, (fldsP 32 (s.drop (0 + x.1.length + 2))).1 = fs := ⟨_, rfl⟩
      obtain ⟨a2, ha2e⟩ : ∃ a2, s.length - (fldsP 32 (s.drop (0 + x.1.length + 2))).2.length = a2 := ⟨_, rfl⟩
      have ha2 : a2 ≤ s.length := by omega
      have FS := Lib.hid (And.intro hfs ha2e)
      cases q3 : lineP (s.drop a2) with
      | none =>
        have eA : parseA h s = (none, a2) := by unfold parseA; rw [q1]; simp only; rw [q2]; simp only; rw [ha2e, q3]
        have eP : ParseOwn h s w = fun e w' => e = .returned (.tuple #[rspV noRsp none 0 0, .int .i64 0, .agg #[.int .i64 3, .int .i64 ((a2 : Nat) : Int)]]) ∧ Below w.heap.size w w' := by
          funext e w'; unfold ParseOwn; rw [eA]
        rw [eP]
        clear eP eA
        have Q3 := Lib.hid q3
        clear q1 q2 q3 hfs ha2e
        go_enter Tryd.func15, Tryd.ntmps15
        go_wp2_with fail
        (with_reducible refine (CC.out).mono ?_); rintro e w3 ⟨rfl, b3, g3⟩
        rw [HWW.out] at g3
        have H := Lib.hid (HA.out _ g3)
        have B := Lib.hid b3
        clear b3 g3 CC
        have CF := Lib.hid (pFieldsR s (0 + x.1.length + 2) c ⟨#[]⟩ false h (w.heap.size + 1 + 1) w3 W0 hs ha1 B.out HT.out HM.out H.out (by rw [HW0.out]; omega))
        clear B H
        go_wp2_with fail
        (with_reducible refine (CF.out).mono ?_); rintro e w4 ⟨A, cap, rfl, b4, o4, h4⟩
        rw [FS.out.1, FS.out.2] at b4
        rw [FS.out.1] at o4
        have H4 := Lib.hid h4
        have O4 := Lib.hid o4
        have B4 := Lib.hid b4
        have CB := Lib.hid (pBodyR s a2 c (.slice A fs.length cap) ⟨#[]⟩ false h (w.heap.size + 1 + 1) w4 W0 hs ha2 b4 HT.out HM.out HE.out h4)
        clear b4 o4 h4 CF
        rw [Q3.out] at CB
        go_wp2_with fail
        (with_reducible refine (CB.out).mono ?_); rintro e w5 ⟨rfl, b5, g5⟩
        have H := Lib.hid (Wrel H4.out g5 H4.out.size (by rw [HW0.out]; omega))
        have O := Lib.hid (O4.out.kept g5 (.inr (own_blk_ne (e := 47) O4.out B4.out (by decide))))
        have B := Lib.hid b5
        clear b5 g5 CB H4 O4 B4
        have kr := K0.out.below H.out K0.out.lt
        have kf := K1.out.below H.out K1.out.lt
        have p0 : w5.cell? ⟨w.heap.size, 0, none⟩ = some (.int .i64 0) := kr.cell 0
        have p1 : w5.cell? ⟨w.heap.size, 1, none⟩ = some (.slice none 0 0) := kr.cell 1
        have p2 : w5.cell? ⟨w.heap.size, 2, none⟩ = some (.string ⟨#[]⟩) := kr.cell 2
        have p3 : w5.cell? ⟨w.heap.size, 3, none⟩ = some (.bool false) := kr.cell 3
        have p4 : w5.cell? ⟨w.heap.size, 4, none⟩ = some (.bool false) := kr.cell 4
        have f0 := kr.frozen 0
        have f1 := kr.frozen 1
        have f2 := kr.frozen 2
        have f3 := kr.frozen 3
        have f4 := kr.frozen 4
        have r0 : w5.cell? ⟨w.heap.size + 1, 0, none⟩ = some (.int .i64 0) := kf.cell 0
        have r1 : w5.cell? ⟨w.heap.size + 1, 1, none⟩ = some (.int .i64 0) := kf.cell 1
        have s0 := kf.frozen 0
        have s1 := kf.frozen 1
        have a1 : w5.cell? ⟨w.heap.size + 1 + 1, 1, none⟩ = some (.int .i64 ((a2 : Nat) : Int)) := B.out.cell 1
        have KF := Lib.hid (fin_chain kr kf (by omega) (.int .i64 0) (.slice none 0 0) (.string ⟨#[]⟩) (.bool false) (.bool false) (.int .i64 3) (.int .i64 ((a2 : Nat) : Int)))
        have HB := Lib.hid (B0.out.trans (H.out.mono (by rw [HW0.out]; omega)))
        clear kr kf
        go_wp2_with fail
        go_region
        all_goals go_wp2_with fail
        all_goals (
          refine bodyPost_ret (results_cell_tmp_cell (p := 4) (t := 5) (q := 6) (ty := 24) (ty2 := 33) (by kernel_rfl) _ _ w.heap.size (w.heap.size + 1) _ _ _ rfl (ld5 KF.out.1 rfl) rfl rfl (ld2 KF.out.2.1 rfl)) rfl ?_
          exact ⟨rfl, KF.out.2.2 _ _ (Nat.le_refl _) (by omega) HB.out⟩)
      | some y =>
        have ha3 := second_len q3
        cases q4 : lenP y.1 with
        | none =>
          have eA : parseA h s = (none, a2) := by unfold parseA; rw [q1]; simp only; rw [q2]; simp only; rw [ha2e, q3]; simp only; rw [q4]
          have eP : ParseOwn h s w = fun e w' => e = .returned (.tuple #[rspV noRsp none 0 0, .int .i64 0, .agg #[.int .i64 3, .int .i64 ((a2 : Nat) : Int)]]) ∧ Below w.heap.size w w' := by
            funext e w'; unfold ParseOwn; rw [eA]
          rw [eP]
          clear eP eA
          have Q3 := Lib.hid q3
          have Q4 := Lib.hid q4
          clear q1 q2 q3 q4 hfs ha2e
          go_enter Tryd.func15, Tryd.ntmps15
          go_wp2_with fail
          (with_reducible refine (CC.out).mono ?_); rintro e w3 ⟨rfl, b3, g3⟩
          rw [HWW.out] at g3
          have H := Lib.hid (HA.out _ g3)
          have B := Lib.hid b3
          clear b3 g3 CC
          have CF := Lib.hid (pFieldsR s (0 + x.1.length + 2) c ⟨#[]⟩ false h (w.heap.size + 1 + 1) w3 W0 hs ha1 B.out HT.out HM.out H.out (by rw [HW0.out]; omega))
          clear B H
          go_wp2_with fail
          (with_reducible refine (CF.out).mono ?_); rintro e w4 ⟨A, cap, rfl, b4, o4, h4⟩
          rw [FS.out.1, FS.out.2] at b4
          rw [FS.out.1] at o4
          have H4 := Lib.hid h4
          have O4 := Lib.hid o4
          have B4 := Lib.hid b4
          have CB := Lib.hid (pBodyR s a2 c (.slice A fs.length cap) ⟨#[]⟩ false h (w.heap.size + 1 + 1) w4 W0 hs ha2 b4 HT.out HM.out HE.out h4)
          clear b4 o4 h4 CF
          rw [Q3.out] at CB
          simp only at CB
          rw [Q4.out] at CB
          go_wp2_with fail
          (with_reducible refine (CB.out).mono ?_); rintro e w5 ⟨rfl, b5, g5⟩
          have H := Lib.hid (Wrel H4.out g5 H4.out.size (by rw [HW0.out]; omega))
          have O := Lib.hid (O4.out.kept g5 (.inr (own_blk_ne (e := 47) O4.out B4.out (by decide))))
          have B := Lib.hid b5
          clear b5 g5 CB H4 O4 B4
          have kr := K0.out.below H.out K0.out.lt
          have kf := K1.out.below H.out K1.out.lt
          have p0 : w5.cell? ⟨w.heap.size, 0, none⟩ = some (.int .i64 0) := kr.cell 0
          have p1 : w5.cell? ⟨w.heap.size, 1, none⟩ = some (.slice none 0 0) := kr.cell 1
          have p2 : w5.cell? ⟨w.heap.size, 2, none⟩ = some (.string ⟨#[]⟩) := kr.cell 2
          have p3 : w5.cell? ⟨w.heap.size, 3, none⟩ = some (.bool false) := kr.cell 3
          have p4 : w5.cell? ⟨w.heap.size, 4, none⟩ = some (.bool false) := kr.cell 4
          have f0 := kr.frozen 0
          have f1 := kr.frozen 1
          have f2 := kr.frozen 2
          have f3 := kr.frozen 3
          have f4 := kr.frozen 4
          have r0 : w5.cell? ⟨w.heap.size + 1, 0, none⟩ = some (.int .i64 0) := kf.cell 0
          have r1 : w5.cell? ⟨w.heap.size + 1, 1, none⟩ = some (.int .i64 0) := kf.cell 1
          have s0 := kf.frozen 0
          have s1 := kf.frozen 1
          have a1 : w5.cell? ⟨w.heap.size + 1 + 1, 1, none⟩ = some (.int .i64 ((a2 : Nat) : Int)) := B.out.cell 1
          have KF := Lib.hid (fin_chain kr kf (by omega) (.int .i64 0) (.slice none 0 0) (.string ⟨#[]⟩) (.bool false) (.bool false) (.int .i64 3) (.int .i64 ((a2 : Nat) : Int)))
          have HB := Lib.hid (B0.out.trans (H.out.mono (by rw [HW0.out]; omega)))
          clear kr kf
          go_wp2_with fail
          go_region
          all_goals go_wp2_with fail
          all_goals (
            refine bodyPost_ret (results_cell_tmp_cell (p := 4) (t := 5) (q := 6) (ty := 24) (ty2 := 33) (by kernel_rfl) _ _ w.heap.size (w.heap.size + 1) _ _ _ rfl (ld5 KF.out.1 rfl) rfl rfl (ld2 KF.out.2.1 rfl)) rfl ?_
            exact ⟨rfl, KF.out.2.2 _ _ (Nat.le_refl _) (by omega) HB.out⟩)
        | some n =>
          have hn := (lenP_some q4).2
          obtain ⟨a4, cl, ok, hE4⟩ : ∃ a4 cl ok, endR s (a2 + y.1.length + 2) false = (a4, cl, ok) := ⟨_, _, _, rfl⟩
          have ha4 : a4 ≤ s.length := by
            have := endR_le s (a2 + y.1.length + 2) false ha3
            rw [hE4] at this
            exact this
          have ES := Lib.hid hE4
          cases ok with
          | false =>
            have eA : parseA h s = (none, a4) := by unfold parseA; rw [q1]; simp only; rw [q2]; simp only; rw [ha2e, q3]; simp only; rw [q4]; simp only; rw [hE4]; rfl
            have eP : ParseOwn h s w = fun e w' => e = .returned (.tuple #[rspV noRsp none 0 0, .int .i64 0, .agg #[.int .i64 3, .int .i64 ((a4 : Nat) : Int)]]) ∧ Below w.heap.size w w' := by
              funext e w'; unfold ParseOwn; rw [eA]
            rw [eP]
            clear eP eA
            have Q3 := Lib.hid q3
            have Q4 := Lib.hid q4
            clear q1 q2 q3 q4 hfs ha2e hE4
            go_enter Tryd.func15, Tryd.ntmps15
            go_wp2_with fail
            (with_reducible refine (CC.out).mono ?_); rintro e w3 ⟨rfl, b3, g3⟩
            rw [HWW.out] at g3
            have H := Lib.hid (HA.out _ g3)
            have B := Lib.hid b3
            clear b3 g3 CC
            have CF := Lib.hid (pFieldsR s (0 + x.1.length + 2) c ⟨#[]⟩ false h (w.heap.size + 1 + 1) w3 W0 hs ha1 B.out HT.out HM.out H.out (by rw [HW0.out]; omega))
            clear B H
            go_wp2_with fail
            (with_reducible refine (CF.out).mono ?_); rintro e w4 ⟨A, cap, rfl, b4, o4, h4⟩
            rw [FS.out.1, FS.out.2] at b4
            rw [FS.out.1] at o4
            have H4 := Lib.hid h4
            have O4 := Lib.hid o4
            have B4 := Lib.hid b4
            have CB := Lib.hid (pBodyR s a2 c (.slice A fs.length cap) ⟨#[]⟩ false h (w.heap.size + 1 + 1) w4 W0 hs ha2 b4 HT.out HM.out HE.out h4)
            clear b4 o4 h4 CF
            rw [Q3.out] at CB
            simp only at CB
            rw [Q4.out] at CB
            go_wp2_with fail
            (with_reducible refine (CB.out).mono ?_); rintro e w5 ⟨rfl, b5, g5⟩
            have H := Lib.hid (Wrel H4.out g5 H4.out.size (by rw [HW0.out]; omega))
            have O := Lib.hid (O4.out.kept g5 (.inr (own_blk_ne (e := 47) O4.out B4.out (by decide))))
            have B := Lib.hid b5
            clear b5 g5 CB H4 O4 B4
            have CE := Lib.hid (pEndR s (a2 + y.1.length + 2) c (.slice A fs.length cap) ⟨#[]⟩ false h (w.heap.size + 1 + 1) w5 hs ha3 B.out (HM.out.below H.out))
            rw [ES.out] at CE
            have H5 := Lib.hid H.out
            have O5 := Lib.hid O.out
            have B5 := Lib.hid B.out
            clear H O B
            go_wp2_with fail
            (with_reducible refine (CE.out).mono ?_); rintro e w6 ⟨rfl, b6, g6⟩
            have H := Lib.hid (Wrel H5.out g6 H5.out.size (by rw [HW0.out]; omega))
            have O := Lib.hid (O5.out.kept g6 (.inr (own_blk_ne (e := 47) O5.out B5.out (by decide))))
            have B := Lib.hid b6
            clear b6 g6 CE H5 O5 B5
            have kr := K0.out.below H.out K0.out.lt
            have kf := K1.out.below H.out K1.out.lt
            have p0 : w6.cell? ⟨w.heap.size, 0, none⟩ = some (.int .i64 0) := kr.cell 0
            have p1 : w6.cell? ⟨w.heap.size, 1, none⟩ = some (.slice none 0 0) := kr.cell 1
            have p2 : w6.cell? ⟨w.heap.size, 2, none⟩ = some (.string ⟨#[]⟩) := kr.cell 2
            have p3 : w6.cell? ⟨w.heap.size, 3, none⟩ = some (.bool false) := kr.cell 3
            have p4 : w6.cell? ⟨w.heap.size, 4, none⟩ = some (.bool false) := kr.cell 4
            have f0 := kr.frozen 0
            have f1 := kr.frozen 1
            have f2 := kr.frozen 2
            have f3 := kr.frozen 3
            have f4 := kr.frozen 4
            have r0 : w6.cell? ⟨w.heap.size + 1, 0, none⟩ = some (.int .i64 0) := kf.cell 0
            have r1 : w6.cell? ⟨w.heap.size + 1, 1, none⟩ = some (.int .i64 0) := kf.cell 1
            have s0 := kf.frozen 0
            have s1 := kf.frozen 1
            have a1 : w6.cell? ⟨w.heap.size + 1 + 1, 1, none⟩ = some (.int .i64 ((a4 : Nat) : Int)) := B.out.cell 1
            have KF := Lib.hid (fin_chain kr kf (by omega) (.int .i64 0) (.slice none 0 0) (.string ⟨#[]⟩) (.bool false) (.bool false) (.int .i64 3) (.int .i64 ((a4 : Nat) : Int)))
            have HB := Lib.hid (B0.out.trans (H.out.mono (by rw [HW0.out]; omega)))
            clear kr kf
            go_wp2_with fail
            go_region
            all_goals go_wp2_with fail
            all_goals (
              refine bodyPost_ret (results_cell_tmp_cell (p := 4) (t := 5) (q := 6) (ty := 24) (ty2 := 33) (by kernel_rfl) _ _ w.heap.size (w.heap.size + 1) _ _ _ rfl (ld5 KF.out.1 rfl) rfl rfl (ld2 KF.out.2.1 rfl)) rfl ?_
              exact ⟨rfl, KF.out.2.2 _ _ (Nat.le_refl _) (by omega) HB.out⟩)
          | true =>
            cases h with
            | true =>
              have eA : parseA true s = (some (⟨c, fs, [], cl, true⟩, a4), 0) := by unfold parseA; rw [q1]; simp only; rw [q2]; simp only; rw [ha2e, q3]; simp only; rw [q4]; simp only; rw [hE4, hfs]; rfl
              have eP : ParseOwn true s w = fun e w' => ∃ A cap, e = .returned (.tuple #[rspV ⟨c, fs, [], cl, true⟩ A fs.length cap, .int .i64 ((a4 : Nat) : Int), .agg #[.int .i64 0, .int .i64 0]]) ∧ w'.ownsRow w.heap.size 47 2 (.slice A fs.length cap) fs.length (fldsC fs) ∧ fs.length ≤ cap ∧ Below w.heap.size w w' := by
                funext e w'; unfold ParseOwn; rw [eA]
              rw [eP]
              clear eP eA
              have Q3 := Lib.hid q3
              have Q4 := Lib.hid q4
              clear q1 q2 q3 q4 hfs ha2e hE4
              go_enter Tryd.func15, Tryd.ntmps15
              go_wp2_with fail
              (with_reducible refine (CC.out).mono ?_); rintro e w3 ⟨rfl, b3, g3⟩
              rw [HWW.out] at g3
              have H := Lib.hid (HA.out _ g3)
              have B := Lib.hid b3
              clear b3 g3 CC
              have CF := Lib.hid (pFieldsR s (0 + x.1.length + 2) c ⟨#[]⟩ false true (w.heap.size + 1 + 1) w3 W0 hs ha1 B.out HT.out HM.out H.out (by rw [HW0.out]; omega))
              clear B H
              go_wp2_with fail
              (with_reducible refine (CF.out).mono ?_); rintro e w4 ⟨A, cap, rfl, b4, o4, h4⟩
              rw [FS.out.1, FS.out.2] at b4
              rw [FS.out.1] at o4
              have H4 := Lib.hid h4
              have O4 := Lib.hid o4
              have B4 := Lib.hid b4
              have CB := Lib.hid (pBodyR s a2 c (.slice A fs.length cap) ⟨#[]⟩ false true (w.heap.size + 1 + 1) w4 W0 hs ha2 b4 HT.out HM.out HE.out h4)
              clear b4 o4 h4 CF
              rw [Q3.out] at CB
              simp only at CB
              rw [Q4.out] at CB
              go_wp2_with fail
              (with_reducible refine (CB.out).mono ?_); rintro e w5 ⟨rfl, b5, g5⟩
              have H := Lib.hid (Wrel H4.out g5 H4.out.size (by rw [HW0.out]; omega))
              have O := Lib.hid (O4.out.kept g5 (.inr (own_blk_ne (e := 47) O4.out B4.out (by decide))))
              have B := Lib.hid b5
              clear b5 g5 CB H4 O4 B4
              have CE := Lib.hid (pEndR s (a2 + y.1.length + 2) c (.slice A fs.length cap) ⟨#[]⟩ false true (w.heap.size + 1 + 1) w5 hs ha3 B.out (HM.out.below H.out))
              rw [ES.out] at CE
              have H5 := Lib.hid H.out
              have O5 := Lib.hid O.out
              have B5 := Lib.hid B.out
              clear H O B
              go_wp2_with fail
              (with_reducible refine (CE.out).mono ?_); rintro e w6 ⟨rfl, b6, g6⟩
              have H := Lib.hid (Wrel H5.out g6 H5.out.size (by rw [HW0.out]; omega))
              have O := Lib.hid (O5.out.kept g6 (.inr (own_blk_ne (e := 47) O5.out B5.out (by decide))))
              have B := Lib.hid b6
              clear b6 g6 CE H5 O5 B5
              have kr := K0.out.below H.out K0.out.lt
              have kf := K1.out.below H.out K1.out.lt
              have p0 : w6.cell? ⟨w.heap.size, 0, none⟩ = some (.int .i64 0) := kr.cell 0
              have p1 : w6.cell? ⟨w.heap.size, 1, none⟩ = some (.slice none 0 0) := kr.cell 1
              have p2 : w6.cell? ⟨w.heap.size, 2, none⟩ = some (.string ⟨#[]⟩) := kr.cell 2
              have p3 : w6.cell? ⟨w.heap.size, 3, none⟩ = some (.bool false) := kr.cell 3
              have p4 : w6.cell? ⟨w.heap.size, 4, none⟩ = some (.bool false) := kr.cell 4
              have f0 := kr.frozen 0
              have f1 := kr.frozen 1
              have f2 := kr.frozen 2
              have f3 := kr.frozen 3
              have f4 := kr.frozen 4
              have r0 : w6.cell? ⟨w.heap.size + 1, 0, none⟩ = some (.int .i64 0) := kf.cell 0
              have r1 : w6.cell? ⟨w.heap.size + 1, 1, none⟩ = some (.int .i64 0) := kf.cell 1
              have s0 := kf.frozen 0
              have s1 := kf.frozen 1
              have a1 : w6.cell? ⟨w.heap.size + 1 + 1, 1, none⟩ = some (.int .i64 ((a4 : Nat) : Int)) := B.out.cell 1
              have a2' : w6.cell? ⟨w.heap.size + 1 + 1, 2, none⟩ = some (.int .i64 c) := B.out.cell 2
              have a3' : w6.cell? ⟨w.heap.size + 1 + 1, 3, none⟩ = some (.slice A fs.length cap) := B.out.cell 3
              have a4' : w6.cell? ⟨w.heap.size + 1 + 1, 4, none⟩ = some (.string ⟨#[]⟩) := B.out.cell 4
              have a5' : w6.cell? ⟨w.heap.size + 1 + 1, 5, none⟩ = some (.bool cl) := B.out.cell 5
              have a6' : w6.cell? ⟨w.heap.size + 1 + 1, 6, none⟩ = some (.bool true) := B.out.cell 6
              have KF := Lib.hid (fin_chain kr kf (by omega) (.int .i64 c) (.slice A fs.length cap) (.string ⟨#[]⟩) (.bool cl) (.bool true) (.int .i64 0) (.int .i64 0))
              have HB := Lib.hid (B0.out.trans (H.out.mono (by rw [HW0.out]; omega)))
              have HO := Lib.hid (own_chain O.out w.heap.size (w.heap.size + 1) (by rw [HW0.out]; omega) (by rw [HW0.out]; omega) (.int .i64 c) (.slice A fs.length cap) (.string ⟨#[]⟩) (.bool cl) (.bool true) (.int .i64 0) (.int .i64 0))
              clear kr kf
              go_wp2_with fail
              go_region
              all_goals go_wp2_with fail
              all_goals (
                refine bodyPost_ret (results_cell_tmp_cell (p := 4) (t := 5) (q := 6) (ty := 24) (ty2 := 33) (by kernel_rfl) _ _ w.heap.size (w.heap.size + 1) _ _ _ rfl (ld5 KF.out.1 rfl) rfl rfl (ld2 KF.out.2.1 rfl)) rfl ?_
                exact ⟨A, cap, rfl, own_leJ HO.out (by rw [HW0.out]; omega), own_capR HO.out, KF.out.2.2 _ _ (Nat.le_refl _) (by omega) HB.out⟩)
            | false =>
              by_cases hsh : s.length - a4 < n
              · have eA : parseA false s = (none, s.length) := by unfold parseA; rw [q1]; simp only; rw [q2]; simp only; rw [ha2e, q3]; simp only; rw [q4]; simp only; rw [hE4]; simp only; rw [if_neg (by simp), if_neg (by simp), if_pos hsh]
                have eP : ParseOwn false s w = fun e w' => e = .returned (.tuple #[rspV noRsp none 0 0, .int .i64 0, .agg #[.int .i64 3, .int .i64 ((s.length : Nat) : Int)]]) ∧ Below w.heap.size w w' := by
                  funext e w'; unfold ParseOwn; rw [eA]
                rw [eP]
                clear eP eA
                have hzs := bs_size s
                have hd : decide ((s.length : Int) - (a4 : Int) < (n : Int)) = true := by simp; omega
                have hz1 : (0 : Int) ≤ (a4 : Int) := by omega
                have hz2 : (a4 : Int) ≤ (s.length : Int) := by omega
                have Q3 := Lib.hid q3
                have Q4 := Lib.hid q4
                clear q1 q2 q3 q4 hfs ha2e hE4 hsh
                go_enter Tryd.func15, Tryd.ntmps15
                go_wp2_with fail
                (with_reducible refine (CC.out).mono ?_); rintro e w3 ⟨rfl, b3, g3⟩
                rw [HWW.out] at g3
                have H := Lib.hid (HA.out _ g3)
                have B := Lib.hid b3
                clear b3 g3 CC
                have CF := Lib.hid (pFieldsR s (0 + x.1.length + 2) c ⟨#[]⟩ false false (w.heap.size + 1 + 1) w3 W0 hs ha1 B.out HT.out HM.out H.out (by rw [HW0.out]; omega))
                clear B H
                go_wp2_with fail
                (with_reducible refine (CF.out).mono ?_); rintro e w4 ⟨A, cap, rfl, b4, o4, h4⟩
                rw [FS.out.1, FS.out.2] at b4
                rw [FS.out.1] at o4
                have H4 := Lib.hid h4
                have O4 := Lib.hid o4
                have B4 := Lib.hid b4
                have CB := Lib.hid (pBodyR s a2 c (.slice A fs.length cap) ⟨#[]⟩ false false (w.heap.size + 1 + 1) w4 W0 hs ha2 b4 HT.out HM.out HE.out h4)
                clear b4 o4 h4 CF
                rw [Q3.out] at CB
                simp only at CB
                rw [Q4.out] at CB
                go_wp2_with fail
                (with_reducible refine (CB.out).mono ?_); rintro e w5 ⟨rfl, b5, g5⟩
                have H := Lib.hid (Wrel H4.out g5 H4.out.size (by rw [HW0.out]; omega))
                have O := Lib.hid (O4.out.kept g5 (.inr (own_blk_ne (e := 47) O4.out B4.out (by decide))))
                have B := Lib.hid b5
                clear b5 g5 CB H4 O4 B4
                have CE := Lib.hid (pEndR s (a2 + y.1.length + 2) c (.slice A fs.length cap) ⟨#[]⟩ false false (w.heap.size + 1 + 1) w5 hs ha3 B.out (HM.out.below H.out))
                rw [ES.out] at CE
                have H5 := Lib.hid H.out
                have O5 := Lib.hid O.out
                have B5 := Lib.hid B.out
                clear H O B
                go_wp2_with fail
                (with_reducible refine (CE.out).mono ?_); rintro e w6 ⟨rfl, b6, g6⟩
                have H := Lib.hid (Wrel H5.out g6 H5.out.size (by rw [HW0.out]; omega))
                have O := Lib.hid (O5.out.kept g6 (.inr (own_blk_ne (e := 47) O5.out B5.out (by decide))))
                have B := Lib.hid b6
                clear b6 g6 CE H5 O5 B5
                have kr := K0.out.below H.out K0.out.lt
                have kf := K1.out.below H.out K1.out.lt
                have p0 : w6.cell? ⟨w.heap.size, 0, none⟩ = some (.int .i64 0) := kr.cell 0
                have p1 : w6.cell? ⟨w.heap.size, 1, none⟩ = some (.slice none 0 0) := kr.cell 1
                have p2 : w6.cell? ⟨w.heap.size, 2, none⟩ = some (.string ⟨#[]⟩) := kr.cell 2
                have p3 : w6.cell? ⟨w.heap.size, 3, none⟩ = some (.bool false) := kr.cell 3
                have p4 : w6.cell? ⟨w.heap.size, 4, none⟩ = some (.bool false) := kr.cell 4
                have f0 := kr.frozen 0
                have f1 := kr.frozen 1
                have f2 := kr.frozen 2
                have f3 := kr.frozen 3
                have f4 := kr.frozen 4
                have r0 : w6.cell? ⟨w.heap.size + 1, 0, none⟩ = some (.int .i64 0) := kf.cell 0
                have r1 : w6.cell? ⟨w.heap.size + 1, 1, none⟩ = some (.int .i64 0) := kf.cell 1
                have s0 := kf.frozen 0
                have s1 := kf.frozen 1
                have a1 : w6.cell? ⟨w.heap.size + 1 + 1, 1, none⟩ = some (.int .i64 ((a4 : Nat) : Int)) := B.out.cell 1
                have KF := Lib.hid (fin_chain0 kr kf (by omega) (.int .i64 0) (.slice none 0 0) (.string ⟨#[]⟩) (.bool false) (.bool false) (.int .i64 3) (.int .i64 ((s.length : Nat) : Int)))
                have HB := Lib.hid (B0.out.trans (H.out.mono (by rw [HW0.out]; omega)))
                clear kr kf
                go_wp2_with fail
                all_goals (
                  refine bodyPost_ret (results_cell_tmp_cell (p := 4) (t := 5) (q := 6) (ty := 24) (ty2 := 33) (by kernel_rfl) _ _ w.heap.size (w.heap.size + 1) _ _ _ rfl (ld5 KF.out.1 rfl) rfl rfl (ld2 KF.out.2.1 rfl)) rfl ?_
                  exact ⟨rfl, KF.out.2.2 _ _ (Nat.le_refl _) (by omega) HB.out⟩)
              · have eA : parseA false s = (some (⟨c, fs, (s.drop a4).take n, cl, false⟩, a4 + n), 0) := by unfold parseA; rw [q1]; simp only; rw [q2]; simp only; rw [ha2e, q3]; simp only; rw [q4]; simp only; rw [hE4, hfs]; simp only; rw [if_neg (by simp), if_neg (by simp), if_neg hsh]
                have eP : ParseOwn false s w = fun e w' => ∃ A cap, e = .returned (.tuple #[rspV ⟨c, fs, (s.drop a4).take n, cl, false⟩ A fs.length cap, .int .i64 ((a4 + n : Nat) : Int), .agg #[.int .i64 0, .int .i64 0]]) ∧ w'.ownsRow w.heap.size 47 2 (.slice A fs.length cap) fs.length (fldsC fs) ∧ fs.length ≤ cap ∧ Below w.heap.size w w' := by
                  funext e w'; unfold ParseOwn; rw [eA]
                rw [eP]
                clear eP eA
                have hzs := bs_size s
                have hd : decide ((s.length : Int) - (a4 : Int) < (n : Int)) = false := by simp; omega
                have hz1 : (0 : Int) ≤ (a4 : Int) := by omega
                have hz2 : (a4 : Int) ≤ ((a4 + n : Nat) : Int) := by omega
                have hz3 : ((a4 + n : Nat) : Int) ≤ (s.length : Int) := by omega
                have hw1 : IntKind.i64.wrap ((a4 : Int) + (n : Int)) = ((a4 + n : Nat) : Int) := by rw [IntKind.wrap_i64]; omega
                have hx2 : (bs s).extract a4 (a4 + n) = bs ((s.drop a4).take n) := by
                  rw [xb]
                  congr 1
                  rw [List.drop_take]; congr 1; omega
                obtain ⟨bd, hbd⟩ : ∃ bd, bs ((s.drop a4).take n) = bd := ⟨_, rfl⟩
                have HBD := Lib.hid hbd
                rw [hbd] at hx2
                have Q3 := Lib.hid q3
                have Q4 := Lib.hid q4
                clear q1 q2 q3 q4 hfs ha2e hE4 hsh hbd
                go_enter Tryd.func15, Tryd.ntmps15
                go_wp2_with fail
                (with_reducible refine (CC.out).mono ?_); rintro e w3 ⟨rfl, b3, g3⟩
                rw [HWW.out] at g3
                have H := Lib.hid (HA.out _ g3)
                have B := Lib.hid b3
                clear b3 g3 CC
                have CF := Lib.hid (pFieldsR s (0 + x.1.length + 2) c ⟨#[]⟩ false false (w.heap.size + 1 + 1) w3 W0 hs ha1 B.out HT.out HM.out H.out (by rw [HW0.out]; omega))
                clear B H
                go_wp2_with fail
                (with_reducible refine (CF.out).mono ?_); rintro e w4 ⟨A, cap, rfl, b4, o4, h4⟩
                rw [FS.out.1, FS.out.2] at b4
                rw [FS.out.1] at o4
                have H4 := Lib.hid h4
                have O4 := Lib.hid o4
                have B4 := Lib.hid b4
                have CB := Lib.hid (pBodyR s a2 c (.slice A fs.length cap) ⟨#[]⟩ false false (w.heap.size + 1 + 1) w4 W0 hs ha2 b4 HT.out HM.out HE.out h4)
                clear b4 o4 h4 CF
                rw [Q3.out] at CB
                simp only at CB
                rw [Q4.out] at CB
                go_wp2_with fail
                (with_reducible refine (CB.out).mono ?_); rintro e w5 ⟨rfl, b5, g5⟩
                have H := Lib.hid (Wrel H4.out g5 H4.out.size (by rw [HW0.out]; omega))
                have O := Lib.hid (O4.out.kept g5 (.inr (own_blk_ne (e := 47) O4.out B4.out (by decide))))
                have B := Lib.hid b5
                clear b5 g5 CB H4 O4 B4
                have CE := Lib.hid (pEndR s (a2 + y.1.length + 2) c (.slice A fs.length cap) ⟨#[]⟩ false false (w.heap.size + 1 + 1) w5 hs ha3 B.out (HM.out.below H.out))
                rw [ES.out] at CE
                have H5 := Lib.hid H.out
                have O5 := Lib.hid O.out
                have B5 := Lib.hid B.out
                clear H O B
                go_wp2_with fail
                (with_reducible refine (CE.out).mono ?_); rintro e w6 ⟨rfl, b6, g6⟩
                have H := Lib.hid (Wrel H5.out g6 H5.out.size (by rw [HW0.out]; omega))
                have O := Lib.hid (O5.out.kept g6 (.inr (own_blk_ne (e := 47) O5.out B5.out (by decide))))
                have B := Lib.hid b6
                clear b6 g6 CE H5 O5 B5
                have b7 := B.out.set_ 4 (.string bd)
                have e7 : (rC s a4 c (.slice A fs.length cap) ⟨#[]⟩ cl false).setIfInBounds 4 (.string bd) = rC s a4 c (.slice A fs.length cap) bd cl false := by simp [rC]
                rw [e7] at b7
                have h7 := H.out.setCell (p := ⟨w.heap.size + 1 + 1, 4, none⟩) (by rw [HW0.out]; exact Nat.le_refl _) (.string bd)
                have o7 : (w6.setCell ⟨w.heap.size + 1 + 1, 4, none⟩ (.string bd)).ownsRow W0.heap.size 47 2 (.slice A fs.length cap) fs.length (fldsC fs) := O.out.kept (Lib.grownBy_setB (World.grownBy.refl w6 (some (w.heap.size + 1 + 1))) 4 _) (.inr (own_blk_ne (e := 47) O.out B.out (by decide)))
                have t0 : w6.cell? ⟨w.heap.size + 1 + 1, 0, none⟩ = some (.string (bs s)) := B.out.cell 0
                have t1 : w6.cell? ⟨w.heap.size + 1 + 1, 1, none⟩ = some (.int .i64 ((a4 : Nat) : Int)) := B.out.cell 1
                have t4 : w6.cell? ⟨w.heap.size + 1 + 1, 4, none⟩ = some (.string ⟨#[]⟩) := B.out.cell 4
                have t5 := B.out.frozen 4
                have H7 := Lib.hid h7.drew
                have O7 := Lib.hid (show (w6.setCell ⟨w.heap.size + 1 + 1, 4, none⟩ (.string bd)).drew.ownsRow W0.heap.size 47 2 (.slice A fs.length cap) fs.length (fldsC fs) from own_drewN o7 1)
                have B7 := Lib.hid b7.drew
                clear b7 e7 h7 o7 H O B
                go_wp2_with fail
                go_region
                generalize (w6.setCell ⟨w.heap.size + 1 + 1, 4, none⟩ (.string bd)).drew = w7 at H7 O7 B7 ⊢
                have H := Lib.hid H7.out
                have O := Lib.hid O7.out
                have B := Lib.hid B7.out
                have hV := Lib.hid (show rspV ⟨c, fs, (s.drop a4).take n, cl, false⟩ A fs.length cap = .agg #[.int .i64 c, .slice A fs.length cap, .string bd, .bool cl, .bool false] by unfold rspV; rw [HBD.out])
                clear H7 O7 B7 t0 t1 t4 t5
                have kr := K0.out.below H.out K0.out.lt
                have kf := K1.out.below H.out K1.out.lt
                have p0 : w7.cell? ⟨w.heap.size, 0, none⟩ = some (.int .i64 0) := kr.cell 0
                have p1 : w7.cell? ⟨w.heap.size, 1, none⟩ = some (.slice none 0 0) := kr.cell 1
                have p2 : w7.cell? ⟨w.heap.size, 2, none⟩ = some (.string ⟨#[]⟩) := kr.cell 2
                have p3 : w7.cell? ⟨w.heap.size, 3, none⟩ = some (.bool false) := kr.cell 3
                have p4 : w7.cell? ⟨w.heap.size, 4, none⟩ = some (.bool false) := kr.cell 4
                have f0 := kr.frozen 0
                have f1 := kr.frozen 1
                have f2 := kr.frozen 2
                have f3 := kr.frozen 3
                have f4 := kr.frozen 4
                have r0 : w7.cell? ⟨w.heap.size + 1, 0, none⟩ = some (.int .i64 0) := kf.cell 0
                have r1 : w7.cell? ⟨w.heap.size + 1, 1, none⟩ = some (.int .i64 0) := kf.cell 1
                have s0 := kf.frozen 0
                have s1 := kf.frozen 1
                have a1 : w7.cell? ⟨w.heap.size + 1 + 1, 1, none⟩ = some (.int .i64 ((a4 : Nat) : Int)) := B.out.cell 1
                have a2' : w7.cell? ⟨w.heap.size + 1 + 1, 2, none⟩ = some (.int .i64 c) := B.out.cell 2
                have a3' : w7.cell? ⟨w.heap.size + 1 + 1, 3, none⟩ = some (.slice A fs.length cap) := B.out.cell 3
                have a4' : w7.cell? ⟨w.heap.size + 1 + 1, 4, none⟩ = some (.string bd) := B.out.cell 4
                have a5' : w7.cell? ⟨w.heap.size + 1 + 1, 5, none⟩ = some (.bool cl) := B.out.cell 5
                have a6' : w7.cell? ⟨w.heap.size + 1 + 1, 6, none⟩ = some (.bool false) := B.out.cell 6
                have KF := Lib.hid (fin_chain kr kf (by omega) (.int .i64 c) (.slice A fs.length cap) (.string bd) (.bool cl) (.bool false) (.int .i64 0) (.int .i64 0))
                have HB := Lib.hid (B0.out.trans (H.out.mono (by rw [HW0.out]; omega)))
                have HO := Lib.hid (own_chain O.out w.heap.size (w.heap.size + 1) (by rw [HW0.out]; omega) (by rw [HW0.out]; omega) (.int .i64 c) (.slice A fs.length cap) (.string bd) (.bool cl) (.bool false) (.int .i64 0) (.int .i64 0))
                clear kr kf
                go_wp2_with fail
                go_region
                all_goals go_wp2_with fail
                all_goals (
                  refine bodyPost_ret (results_cell_tmp_cell (p := 4) (t := 5) (q := 6) (ty := 24) (ty2 := 33) (by kernel_rfl) _ _ w.heap.size (w.heap.size + 1) _ _ _ rfl (ld5 KF.out.1 rfl) rfl rfl (ld2 KF.out.2.1 rfl)) rfl ?_
                  refine ⟨A, cap, ?_, ?_, ?_, ?_⟩
                  · rw [hV.out, Int.natCast_add]
                    rfl
                  · exact own_leJ HO.out (by rw [HW0.out]; omega)
                  · exact own_capR HO.out
                  · exact KF.out.2.2 _ _ (Nat.le_refl _) (by omega) HB.out)
end Go.Proofs.YthhlnpfcpgfcfaaDoor
