/-
  Lists of fields in memory: '==', SameFields, OwnFields, one field more. (For seats without the package field.)
-/
import Derived.Test.YthhlnpfcpgfcfaaGreatDoorFdP
import Derived.Test.YthhlnpfcpgfcfaaGreatDoorKt1
import Derived.Test.YthhlnpfcpgfcfaaGreatDoorOw
import Derived.Laws.StructEq
import Derived.LoopTactic
import Derived.BigQuiet
import Derived.Deep.QuietTactic
namespace Go.Proofs.YthhlnpfcpgfcfaaGreatDoor
open Go.RowKit

theorem infoFldR : (Tryz.prog.info? 57).map (fun i => (i.zero, i.size, i.bytes)) = some (some (.agg #[.string .empty, .string .empty]), 2, 32) := by kernel_rfl
theorem own_capR {base e size n : Nat} {W : World} {A : Option Addr} {cap : Nat} {xs : List Value} (ho : W.ownsRow base e size (.slice A n cap) n xs) : n ≤ cap := by
  rcases ho.2 with ⟨h, _⟩ | ⟨g, cap', cur, h, _, _, hle, _⟩
  · cases h; omega
  · cases h; exact hle
theorem inFld (a b c d : ByteArray) (w : World) : (Op.equalIn 10000 57 (.agg #[.string a, .string b]) (.agg #[.string c, .string d])).run Tryz.prog w = .ok (a.toList == c.toList && b.toList == d.toList) w := by
  have u1 := Tryz.underlying9
  have u2 := Tryz.isAgg9
  have z3 := Tryz.sizeOf9
  have f0 := Tryz.underlying57
  have f1 : Tryz.prog.underlying 57 = some (.struct (Tryz.prog.fieldsOf 57)) := by unfold Program.fieldsOf; rw [f0]
  rw [show (10000 : Nat) = 9999 + 1 from rfl, run_equalIn_struct _ _ _ _ _ f1 (by kernel_rfl)]
  unfold Program.fieldsOf
  rw [f0]
  go_simp
  by_cases h0 : a.toList = c.toList <;> by_cases h1 : b.toList = d.toList <;> simp [h0, h1]
theorem eqFld (a b c d : ByteArray) (w : World) : (binOp .eql 57 (.agg #[.string a, .string b]) (.agg #[.string c, .string d])).run Tryz.prog w = .ok (.bool (a.toList == c.toList && b.toList == d.toList)) w := by
  rw [run_eql_struct, inFld]; rfl
theorem neFld (a b c d : ByteArray) (w : World) : (binOp .neq 57 (.agg #[.string a, .string b]) (.agg #[.string c, .string d])).run Tryz.prog w = .ok (.bool (!(a.toList == c.toList && b.toList == d.toList))) w := by
  rw [run_neq_struct, inFld]; rfl
theorem fld_same {x y : Fld} (h : x = y) : ((bs x.1).toList == (bs y.1).toList && (bs x.2).toList == (bs y.2).toList) = true := by
  subst h; simp
theorem fld_other {x y : Fld} (h : x ≠ y) : ((bs x.1).toList == (bs y.1).toList && (bs x.2).toList == (bs y.2).toList) = false := by
  rw [Bool.and_eq_false_iff]
  by_cases h1 : x.1 = y.1
  · exact .inr (ne_texts fun e => h (Prod.ext h1 e))
  · exact .inl (ne_texts h1)
set_option maxRecDepth 100000 in
set_option maxHeartbeats 4000000 in
theorem SameFieldsR (A B : Option Addr) (n m c d : Nat) (xs ys : List Fld) (w : World) (hr : Reads w w.heap.size 2 A n (fldsC xs)) (ht : Reads w w.heap.size 2 B m (fldsC ys)) (hn : n ≤ 1000000) (hm : m ≤ 1000000) :
    Calls Tryz.prog 53 #[.slice A n c, .slice B m d] w fun e w' => e = .returned (.bool (decide (xs = ys))) ∧ ∃ k, w' = w.drewN k := by
  obtain rfl := hr.flen
  obtain rfl := ht.flen
  obtain ⟨R, hR⟩ : ∃ R, decide (xs = ys) = R := ⟨_, rfl⟩
  rw [hR]
  by_cases hl : xs.length = ys.length
  · have hd : ((xs.length : Int) != (ys.length : Int)) = false := by rw [hl]; simp
    have HX := Lib.hid hr
    have HY := Lib.hid ht
    have HR := Lib.hid hR
    have HL := Lib.hid hl
    clear hr ht hR hl
    go_enter Tryz.func53, Tryz.ntmps53
    go_wp2_with fail
    go_loopw [5] (fun i wr => ∃ k j : Nat, i = .int .i64 k ∧ k ≤ xs.length ∧ Hid (xs.take k = ys.take k) ∧ wr = w.drewN j) (fun i _ => xs.length - (intOf i).toNat)
    case atStart => exact ⟨0, 0, rfl, by omega, rfl, rfl⟩
    case round =>
      obtain ⟨k, j, rfl, hk, HT, rfl⟩ := hrel
      by_cases hlt : k < xs.length
      · have hlt2 : k < ys.length := by rw [← HL.out]; exact hlt
        obtain ⟨b, o, rfl, _, c1, c2⟩ := HX.out.fld k hlt
        obtain ⟨b', o', rfl, _, c3, c4⟩ := HY.out.fld k hlt2
        obtain ⟨x, hx⟩ : ∃ x, xs[k] = x := ⟨_, rfl⟩
        obtain ⟨y, hy⟩ : ∃ y, ys[k] = y := ⟨_, rfl⟩
        rw [hx] at c1 c2
        rw [hy] at c3 c4
        have i0 : (0 : Int) ≤ (k : Int) := by omega
        have i1 : (k : Int) < (xs.length : Int) := by omega
        have i2 : (k : Int) < (ys.length : Int) := by omega
        have hNE := neFld (bs x.1) (bs x.2) (bs y.1) (bs y.2)
        have HXY := Lib.hid (And.intro hx hy)
        clear hx hy hd
        by_cases he : x = y
        · rw [fld_same he] at hNE
          have HN : Hid (xs.take (k + 1) = ys.take (k + 1)) := take_succ_eq hlt hlt2 HT.out (by rw [HXY.out.1, HXY.out.2, he])
          clear he
          go_wp2_with fail
          go_quiet (fail)
          go_wp2_with fail
          exact ⟨⟨k + 1, _, by go_num, by omega, HN, rfl⟩, by simp [intOf]; omega⟩
        · rw [fld_other he] at hNE
          have hres : R = false := by
            rw [← HR.out, decide_eq_false_iff_not]
            intro e
            subst e
            exact he (HXY.out.1.symm.trans HXY.out.2)
          subst hres
          clear he
          go_wp2_with fail
          go_quiet (fail)
          go_wp2_with fail
          go_ret
          exact ⟨rfl, _, World.drewN_drewN _ _ _⟩
      · have hkl : k = xs.length := by omega
        subst hkl
        have hd : decide ((xs.length : Int) < (xs.length : Int)) = false := by simp
        have hres : R = true := by
          rw [← HR.out, decide_eq_true_iff]
          have := HT.out
          rw [List.take_length, HL.out, List.take_length] at this
          exact this
        subst hres
        go_wp2_with fail
        go_ret
        exact ⟨rfl, _, rfl⟩
  · have hd : ((xs.length : Int) != (ys.length : Int)) = true := by rw [bne_iff_ne]; omega
    rw [decide_eq_false (fun e => hl (by rw [e]))] at hR
    subst hR
    clear hr ht hl
    go_enter Tryz.func53, Tryz.ntmps53
    go_wp2_with fail
    go_ret
    exact ⟨rfl, 0, rfl⟩

theorem app_fldR {base : Nat} {W : World} {v : Value} {xs : List Fld} (ho : W.ownsRow base 57 2 v xs.length (fldsC xs)) (hb : base ≤ W.heap.size) (hl : xs.length ≤ 1000000) (y : Fld) :
    ∃ v' w5, (Builtin.append_ #[22, 22] 22 #[v, .slice (some ⟨W.heap.size, 0, none⟩) 1 1]).run Tryz.prog (W.alloc (.cells #[.string (bs y.1), .string (bs y.2)] 57)) = .ok v' w5 ∧ w5.ownsRow base 57 2 v' (xs ++ [y]).length (fldsC (xs ++ [y])) ∧
      Below base W w5 ∧ W.grownBy w5 v.ownBlock := by
  obtain ⟨i0, hi, hz0, hz1, hz2⟩ := info_parts infoFldR
  obtain ⟨v', w5, hrun, hown, hg, hlt, _⟩ := app_one (P := Tryz.prog) 22 22 57 i0 (.agg #[.string .empty, .string .empty]) 2 32 Tryz.underlying22 hi hz0 hz1 hz2 rfl (by decide) base W v _ _ ho #[.string (bs y.1), .string (bs y.2)] rfl (by intro u hu; simp at hu; rcases hu with rfl | rfl <;> rfl) 57 (by unfold maxLen; omega) (by omega) hb
  refine ⟨v', w5, hrun, ?_, (Below.refl base W).grown hg hb (own_ge ho), hg⟩
  rw [fldsC_app, List.length_append]; exact hown

end Go.Proofs.YthhlnpfcpgfcfaaGreatDoor
