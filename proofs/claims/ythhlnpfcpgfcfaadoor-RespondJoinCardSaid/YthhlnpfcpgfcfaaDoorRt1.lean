/-
  The contracts of the statements' own words: a response in new memory, two responses held against each other, the bounds.
-/
import Derived.Test.YthhlnpfcpgfcfaaDoorRs3
import Derived.Lib.BufferOwn
namespace Go.Proofs.YthhlnpfcpgfcfaaDoor
open Go.RowKit

theorem ld5' {W : World} {g : Nat} {cs : Array Value} (h : Blk W g 24 cs) (hc : cs.size = 5) : (loadVar 24 ⟨g, 0, none⟩).run Tryd.prog W = .ok (.agg cs) W :=
  run_loadVar_row W g 24 24 cs (0, 0) _ h Tryd.underlying24 rfl (by rw [hc]; kernel_rfl)
theorem results_cell1 {fn : Func} {p : Tmp} {ty : TypeId} {P : Program} (h : fn.results = #[.cell p ty]) (tmps : Array Value) (w : World) (g : Nat) (x : Value)
    (hp : tmps.getD p undef = .pointer (some ⟨g, 0, none⟩)) (hl : (loadVar ty ⟨g, 0, none⟩).run P w = .ok x w) : (results fn tmps).run P w = .ok x w := by
  have hp' : tmps[p]?.getD undef = .pointer (some ⟨g, 0, none⟩) := by simpa using hp
  simp [results, h, hp', asAddr, hl]
theorem blk5 {w : World} {g : Nat} {t : TypeId} {a0 a1 a2 a3 a4 : Value} (h : Blk w g t #[a0, a1, a2, a3, a4]) (b0 b1 b2 b3 b4 : Value) :
    Blk (((((w.setCell ⟨g, 0, none⟩ b0).setCell ⟨g, 1, none⟩ b1).setCell ⟨g, 2, none⟩ b2).setCell ⟨g, 3, none⟩ b3).setCell ⟨g, 4, none⟩ b4) g t #[b0, b1, b2, b3, b4] := by
  have := ((((h.set_ 0 b0).set_ 1 b1).set_ 2 b2).set_ 3 b3).set_ 4 b4
  simpa using this
def OwnPost (r : Rsp) (w : World) (e : Ending) (w' : World) : Prop := ∃ B d, e = .returned (rspV r B r.flds.length d) ∧ r.flds.length ≤ d ∧ Reads w' w'.heap.size 2 B r.flds.length (fldsC r.flds) ∧ Below w.heap.size w w'
set_option maxRecDepth 100000 in
set_option maxHeartbeats 4000000 in
theorem pOwn12 (r : Rsp) (A : Option Addr) (n c : Nat) (w : World) (hr : Reads w w.heap.size 2 A n (fldsC r.flds)) (hn : n ≤ 1000000) :
    Calls Tryd.prog 13 #[rspV r A n c] w (OwnPost r w) := by
  obtain rfl := hr.flen
  obtain ⟨code, flds, body, close, head⟩ := r
  unfold rspV
  simp only at *
  obtain ⟨i0, hi, hz0, hz1, hz2⟩ := info_parts infoFldR
  have bX : Below w.heap.size w ((w.alloc (.cells #[.int .i64 code, .slice A flds.length c, .string (bs body), .bool close, .bool head] 24)).alloc (.cells #[.int .i64 0, .slice none 0 0, .string ⟨#[]⟩, .bool false, .bool false] 24)) := ((Below.refl _ _).alloc (Nat.le_refl _) _).alloc (by simp) _
  have kX := (Blk.new w 24 #[.int .i64 code, .slice A flds.length c, .string (bs body), .bool close, .bool head]).alloc (.cells #[.int .i64 0, .slice none 0 0, .string ⟨#[]⟩, .bool false, .bool false] 24)
  have kZ := Blk.new (w.alloc (.cells #[.int .i64 code, .slice A flds.length c, .string (bs body), .bool close, .bool head] 24)) 24 #[.int .i64 0, .slice none 0 0, .string ⟨#[]⟩, .bool false, .bool false]
  rw [show (w.alloc (.cells #[.int .i64 code, .slice A flds.length c, .string (bs body), .bool close, .bool head] 24)).heap.size = w.heap.size + 1 by simp] at kZ
  have hSz : ((w.alloc (.cells #[.int .i64 code, .slice A flds.length c, .string (bs body), .bool close, .bool head] 24)).alloc (.cells #[.int .i64 0, .slice none 0 0, .string ⟨#[]⟩, .bool false, .bool false] 24)).heap.size = w.heap.size + 1 + 1 := by simp
  have hown := World.ownsRow_made (base := w.heap.size) (e := 47) (size := 2) ((w.alloc (.cells #[.int .i64 code, .slice A flds.length c, .string (bs body), .bool close, .bool head] 24)).alloc (.cells #[.int .i64 0, .slice none 0 0, .string ⟨#[]⟩, .bool false, .bool false] 24)) #[] 0 (by simp; omega) (Nat.zero_le _) rfl
  have hr2 := ((hr.below bX).more bX.size).alloc (Nat.le_refl _) (.cells #[] 47)
  rw [hSz] at hown
  have hb1 : (0 + flds.length) ≤ maxLen := by unfold maxLen; omega
  have hb2 : (0 + flds.length) * 32 ≤ 140737488355328 := by omega
  obtain ⟨v', w5, hrun, ho, hg, _⟩ := run_append_any (P := Tryd.prog) _ w.heap.size 22 22 47 i0 (.agg #[.string .empty, .string .empty]) 2 32 Tryd.underlying22 hi hz0 hz1 hz2 rfl (by decide) _ 0 [] hown _ A flds.length c (fldsC flds) hr2 (fldsC_one flds) hb1 hb2 (by simp; omega)
  rw [List.nil_append, Nat.zero_add] at ho
  obtain ⟨B, d, rfl⟩ := own_slice ho
  have hnd := own_capR ho
  have kX5 := (kX.alloc (.cells #[] 47)).grown hg (by simp [Value.ownBlock]; omega)
  have kZ5 := (kZ.alloc (.cells #[] 47)).grown hg (by simp [Value.ownBlock])
  have bX5 : Below w.heap.size w w5 := (bX.alloc (by simp; omega) (.cells #[] 47)).grown hg (by simp; omega) (fun k e => by simp [Value.ownBlock] at e; omega)
  have f1 := kX5.frozen 1
  have x1 : w5.cell? ⟨w.heap.size, 1, none⟩ = some (.slice A flds.length c) := kX5.cell 1
  have kX6 := kX5.set_ 1 (.slice B flds.length d)
  have eX : (#[.int .i64 code, .slice A flds.length c, .string (bs body), .bool close, .bool head] : Array Value).setIfInBounds 1 (.slice B flds.length d) = #[.int .i64 code, .slice B flds.length d, .string (bs body), .bool close, .bool head] := by simp
  rw [eX] at kX6
  have kZ6 := kZ5.far (p := ⟨w.heap.size, 1, none⟩) (by show w.heap.size + 1 ≠ w.heap.size; omega) (.slice B flds.length d)
  have ho6 := ho.kept (Lib.grownBy_setB (World.grownBy.refl w5 (some w.heap.size)) 1 (.slice B flds.length d)) (.inr (own_blk_ne (e := 47) ho kX5 (by decide)))
  have bX6 := bX5.setCell (p := ⟨w.heap.size, 1, none⟩) (Nat.le_refl _) (.slice B flds.length d)
  have HRUN := Lib.hid hrun
  have kR := blk5 kZ6 (.int .i64 code) (.slice B flds.length d) (.string (bs body)) (.bool close) (.bool head)
  have KR := Lib.hid kR
  have HX := Lib.hid (And.intro kX6 (And.intro kZ6 (And.intro ho6 bX6)))
  have HND := Lib.hid hnd
  have c0 : (w5.setCell ⟨w.heap.size, 1, none⟩ (.slice B flds.length d)).cell? ⟨w.heap.size, 0, none⟩ = some (.int .i64 code) := kX6.cell 0
  have c1 : (w5.setCell ⟨w.heap.size, 1, none⟩ (.slice B flds.length d)).cell? ⟨w.heap.size, 1, none⟩ = some (.slice B flds.length d) := kX6.cell 1
  have c2 : (w5.setCell ⟨w.heap.size, 1, none⟩ (.slice B flds.length d)).cell? ⟨w.heap.size, 2, none⟩ = some (.string (bs body)) := kX6.cell 2
  have c3 : (w5.setCell ⟨w.heap.size, 1, none⟩ (.slice B flds.length d)).cell? ⟨w.heap.size, 3, none⟩ = some (.bool close) := kX6.cell 3
  have c4 : (w5.setCell ⟨w.heap.size, 1, none⟩ (.slice B flds.length d)).cell? ⟨w.heap.size, 4, none⟩ = some (.bool head) := kX6.cell 4
  have z0 : (w5.setCell ⟨w.heap.size, 1, none⟩ (.slice B flds.length d)).cell? ⟨w.heap.size + 1, 0, none⟩ = some (.int .i64 0) := kZ6.cell 0
  have z1 : (w5.setCell ⟨w.heap.size, 1, none⟩ (.slice B flds.length d)).cell? ⟨w.heap.size + 1, 1, none⟩ = some (.slice none 0 0) := kZ6.cell 1
  have z2 : (w5.setCell ⟨w.heap.size, 1, none⟩ (.slice B flds.length d)).cell? ⟨w.heap.size + 1, 2, none⟩ = some (.string ⟨#[]⟩) := kZ6.cell 2
  have z3 : (w5.setCell ⟨w.heap.size, 1, none⟩ (.slice B flds.length d)).cell? ⟨w.heap.size + 1, 3, none⟩ = some (.bool false) := kZ6.cell 3
  have z4 : (w5.setCell ⟨w.heap.size, 1, none⟩ (.slice B flds.length d)).cell? ⟨w.heap.size + 1, 4, none⟩ = some (.bool false) := kZ6.cell 4
  have q0 := kZ5.frozen 0
  have q1 := kZ5.frozen 1
  have q2 := kZ5.frozen 2
  have q3 := kZ5.frozen 3
  have q4 := kZ5.frozen 4
  clear hi hz0 hz1 hz2 bX kX kZ hSz hown hr2 hb1 hb2 hrun ho hg hnd kX5 kZ5 bX5 kX6 eX kZ6 ho6 bX6 kR hr
  go_enter Tryd.func13, Tryd.ntmps13
  go_wp2_with (at_builtin; refine wpList_append_run HRUN.out rfl _ _ rfl rfl rfl rfl ?_)
  refine bodyPost_ret (results_cell1 (p := 2) (ty := 24) (by kernel_rfl) _ _ (w.heap.size + 1) _ rfl (ld5' KR.out rfl)) rfl ?_
  exact ⟨B, d, rfl, HND.out,
    Reads.of_own (HX.out.2.2.1.kept (Lib.grownBy_setB (Lib.grownBy_setB (Lib.grownBy_setB (Lib.grownBy_setB (Lib.grownBy_setB (World.grownBy.refl _ (some (w.heap.size + 1))) 0 _) 1 _) 2 _) 3 _) 4 _) (.inr (own_blk_ne (e := 47) HX.out.2.2.1 HX.out.2.1 (by decide)))),
    ((((HX.out.2.2.2.setCell (p := ⟨w.heap.size + 1, 0, none⟩) (Nat.le_succ _) _).setCell (p := ⟨w.heap.size + 1, 1, none⟩) (Nat.le_succ _) _).setCell (p := ⟨w.heap.size + 1, 2, none⟩) (Nat.le_succ _) _).setCell (p := ⟨w.heap.size + 1, 3, none⟩) (Nat.le_succ _) _).setCell (p := ⟨w.heap.size + 1, 4, none⟩) (Nat.le_succ _) _⟩
def LightR (r : Rsp) : Prop := r.flds.length ≤ 40 ∧ r.body.length ≤ 5000 ∧ ∀ f ∈ r.flds, f.1.length ≤ 100 ∧ f.2.length ≤ 1100
def LightPostR (r : Rsp) (w : World) (e : Ending) (w' : World) : Prop := ∃ b : Bool, e = .returned (.bool b) ∧ (b = true → LightR r) ∧ Below w.heap.size w w'
set_option maxRecDepth 100000 in
set_option maxHeartbeats 4000000 in
theorem pLight12 (r : Rsp) (A : Option Addr) (n c : Nat) (w : World) (hr : Reads w w.heap.size 2 A n (fldsC r.flds)) (hn : n ≤ 9223372036854775807) (hb : r.body.length ≤ 9223372036854775807) (hx : ∀ f ∈ r.flds, f.1.length ≤ 9223372036854775807 ∧ f.2.length ≤ 9223372036854775807) :
    Calls Tryd.prog 10 #[rspV r A n c] w (LightPostR r w) := by
  obtain rfl := hr.flen
  obtain ⟨code, flds, body, close, head⟩ := r
  unfold rspV
  simp only at *
  have b0 : Below w.heap.size w (w.alloc (.cells #[.int .i64 code, .slice A flds.length c, .string (bs body), .bool close, .bool head] 24)) := (Below.refl _ _).alloc (Nat.le_refl _) _
  have k0 := Blk.new w 24 #[.int .i64 code, .slice A flds.length c, .string (bs body), .bool close, .bool head]
  have zb := bs_size body
  have HR := Lib.hid (hr.below b0)
  have c1 : (w.alloc (.cells #[.int .i64 code, .slice A flds.length c, .string (bs body), .bool close, .bool head] 24)).cell? ⟨w.heap.size, 1, none⟩ = some (.slice A flds.length c) := k0.cell 1
  have c2 : (w.alloc (.cells #[.int .i64 code, .slice A flds.length c, .string (bs body), .bool close, .bool head] 24)).cell? ⟨w.heap.size, 2, none⟩ = some (.string (bs body)) := k0.cell 2
  have HX := Lib.hid hx
  have B0 := Lib.hid b0
  clear b0 k0 hr hx
  go_enter Tryd.func10, Tryd.ntmps10
  go_wp2_with fail
  go_loop [3] (fun i => ∃ k : Nat, i = .int .i64 k ∧ k ≤ flds.length ∧ k ≤ 40 ∧ Hid (∀ f ∈ flds.take k, f.1.length ≤ 100 ∧ f.2.length ≤ 1100)) (fun i => flds.length - (intOf i).toNat)
  case atStart => exact ⟨0, rfl, by omega, by omega, hide (by simp)⟩
  case round =>
    obtain ⟨k, rfl, hk, hk40, hA⟩ := hrel
    by_cases hlt : k < flds.length ∧ k < 40
    · obtain ⟨hlt, hl4⟩ := hlt
      obtain ⟨b, o, rfl, _, p0, p1⟩ := HR.out.fld k hlt
      have hfk := HX.out flds[k] (List.getElem_mem hlt)
      obtain ⟨f, hf⟩ : ∃ f, flds[k] = f := ⟨_, rfl⟩
      rw [hf] at p0 p1 hfk
      have z1 := bs_size f.1
      have z2 := bs_size f.2
      have i0 : (0 : Int) ≤ (k : Int) := by omega
      have i1 : (k : Int) < (flds.length : Int) := by omega
      have HF := Lib.hid hf
      clear hf
      by_cases h1 : 100 < f.1.length
      · go_wp2_with fail
        go_ret
        exact ⟨false, rfl, (fun e => by cases e), B0.out⟩
      · by_cases h2 : 1100 < f.2.length
        · go_wp2_with fail
          go_ret
          exact ⟨false, rfl, (fun e => by cases e), B0.out⟩
        · have hA2 : Hid (∀ f ∈ flds.take (k + 1), f.1.length ≤ 100 ∧ f.2.length ≤ 1100) := hide (by
            intro g hg
            rw [List.take_succ_eq_append_getElem hlt] at hg
            rcases List.mem_append.1 hg with hg | hg
            · exact hA.out g hg
            · rw [List.mem_singleton.1 hg, HF.out]; omega)
          go_wp2_with fail
          go_round
          case rel => exact ⟨k + 1, by go_num, by omega, by omega, hA2⟩
          case measure => simp [intOf]; omega
    · by_cases h40 : flds.length ≤ 40
      · obtain rfl : k = flds.length := by omega
        have hA2 := hA.out
        rw [List.take_length] at hA2
        have HA2 := Lib.hid hA2
        have hd : decide ((flds.length : Int) < (flds.length : Int)) = false := by simp
        have hd2 : decide ((flds.length : Int) ≤ 40) = true := by simp; omega
        clear hA hA2 hlt
        by_cases h5 : body.length ≤ 5000
        · have hd3 : decide ((body.length : Int) ≤ 5000) = true := by simp; omega
          go_wp2_with fail
          go_ret
          exact ⟨true, rfl, fun _ => ⟨h40, h5, HA2.out⟩, B0.out⟩
        · have hd3 : decide ((body.length : Int) ≤ 5000) = false := by simp; omega
          go_wp2_with fail
          go_ret
          exact ⟨false, rfl, (fun e => by cases e), B0.out⟩
      · obtain rfl : k = 40 := by omega
        have hd : decide ((40 : Int) < (flds.length : Int)) = true := by simp; omega
        have hd2 : decide ((flds.length : Int) ≤ 40) = false := by simp; omega
        clear hA hlt
        go_wp2_with fail
        go_ret
        exact ⟨false, rfl, (fun e => by cases e), B0.out⟩
set_option maxRecDepth 100000 in
set_option maxHeartbeats 4000000 in
theorem pSame12 (r : Rsp) (A B : Option Addr) (n m c d : Nat) (w : World) (hr : Reads w w.heap.size 2 A n (fldsC r.flds)) (ht : Reads w w.heap.size 2 B m (fldsC r.flds)) (hn : n ≤ 1000000) :
    Calls Tryd.prog 16 #[rspV r A n c, rspV r B m d] w fun e w' => e = .returned (.bool true) ∧ Below w.heap.size w w' := by
  obtain rfl := hr.flen
  obtain rfl := ht.flen
  obtain ⟨code, flds, body, close, head⟩ := r
  unfold rspV
  simp only at *
  have bX : Below w.heap.size w ((w.alloc (.cells #[.int .i64 code, .slice A flds.length c, .string (bs body), .bool close, .bool head] 24)).alloc (.cells #[.int .i64 code, .slice B flds.length d, .string (bs body), .bool close, .bool head] 24)) := ((Below.refl _ _).alloc (Nat.le_refl _) _).alloc (by simp) _
  have kX := (Blk.new w 24 #[.int .i64 code, .slice A flds.length c, .string (bs body), .bool close, .bool head]).alloc (.cells #[.int .i64 code, .slice B flds.length d, .string (bs body), .bool close, .bool head] 24)
  have kZ := Blk.new (w.alloc (.cells #[.int .i64 code, .slice A flds.length c, .string (bs body), .bool close, .bool head] 24)) 24 #[.int .i64 code, .slice B flds.length d, .string (bs body), .bool close, .bool head]
  rw [show (w.alloc (.cells #[.int .i64 code, .slice A flds.length c, .string (bs body), .bool close, .bool head] 24)).heap.size = w.heap.size + 1 by simp] at kZ
  have HX := Lib.hid ((hr.below bX))
  have HY := Lib.hid ((ht.below bX))
  have e0 : (code != code) = false := by simp
  have e1 : ((bs body).toList == (bs body).toList) = true := by simp
  have e3 : ((flds.length : Int) != (flds.length : Int)) = false := by simp
  have KX := Lib.hid kX
  have KZ := Lib.hid kZ
  have BX := Lib.hid bX
  clear bX kX kZ hr ht
  cases close <;> cases head
  all_goals (
    have c0 := KX.out.cell 0
    have c1 := KX.out.cell 1
    have c2 := KX.out.cell 2
    have c3 := KX.out.cell 3
    have c4 := KX.out.cell 4
    have d0 := KZ.out.cell 0
    have d1 := KZ.out.cell 1
    have d2 := KZ.out.cell 2
    have d3 := KZ.out.cell 3
    have d4 := KZ.out.cell 4
    simp only [List.getElem?_toArray, List.getElem?_cons_zero, List.getElem?_cons_succ] at c0 c1 c2 c3 c4 d0 d1 d2 d3 d4
    go_enter Tryd.func16, Tryd.ntmps16
    go_wp2_with fail
    go_loopw [5] (fun i wr => ∃ k j : Nat, i = .int .i64 k ∧ k ≤ flds.length ∧ wr = World.drewN (World.alloc (World.alloc w (.cells #[.int .i64 code, .slice A flds.length c, .string (bs body), .bool _, .bool _] 24)) (.cells #[.int .i64 code, .slice B flds.length d, .string (bs body), .bool _, .bool _] 24)) j) (fun i _ => flds.length - (intOf i).toNat)
    case atStart => exact ⟨0, 0, rfl, by omega, rfl⟩
    case round =>
      obtain ⟨k, j, rfl, hk, rfl⟩ := hrel
      by_cases hlt : k < flds.length
      · obtain ⟨b, o, rfl, _, p1, p2⟩ := HX.out.fld k hlt
        obtain ⟨b', o', rfl, _, p3, p4⟩ := HY.out.fld k hlt
        obtain ⟨x, hx⟩ : ∃ x, flds[k] = x := ⟨_, rfl⟩
        rw [hx] at p1 p2 p3 p4
        have i0 : (0 : Int) ≤ (k : Int) := by omega
        have i1 : (k : Int) < (flds.length : Int) := by omega
        have hNE := neFld (bs x.1) (bs x.2) (bs x.1) (bs x.2)
        rw [fld_same rfl] at hNE
        clear hx
        go_wp2_with fail
        go_quiet (fail)
        go_wp2_with fail
        exact ⟨⟨k + 1, _, by go_num, by omega, rfl⟩, by simp [intOf]; omega⟩
      · obtain rfl : k = flds.length := by omega
        have hd : decide ((flds.length : Int) < (flds.length : Int)) = false := by simp
        go_wp2_with fail
        go_ret
        exact ⟨rfl, below_drewN BX.out _⟩)
end Go.Proofs.YthhlnpfcpgfcfaaDoor
