/-
  The contracts of waypostkit on lists of fields: SameFields, OwnFields; the bounds of the statements (large).
-/
import Derived.Test.YtpdohlnobbimaaaDoorFd5
import Derived.Laws.StructEq
import Derived.BigQuiet
import Derived.Deep.QuietTactic
namespace Go.Proofs.YtpdohlnobbimaaaDoor
open Go.RowKit

theorem inFld (a b c d : ByteArray) (w : World) : (Op.equalIn 10000 36 (.agg #[.string a, .string b]) (.agg #[.string c, .string d])).run Tryd.prog w = .ok (a.toList == c.toList && b.toList == d.toList) w := by
  have u1 := Tryd.underlying9
  have u2 := Tryd.isAgg9
  have z3 := Tryd.sizeOf9
  have f0 := Tryd.underlying36
  have f1 : Tryd.prog.underlying 36 = some (.struct (Tryd.prog.fieldsOf 36)) := by unfold Program.fieldsOf; rw [f0]
  rw [show (10000 : Nat) = 9999 + 1 from rfl, run_equalIn_struct _ _ _ _ _ f1 (by kernel_rfl)]
  unfold Program.fieldsOf
  rw [f0]
  go_simp
  by_cases h0 : a.toList = c.toList <;> by_cases h1 : b.toList = d.toList <;> simp [h0, h1]
theorem eqFld (a b c d : ByteArray) (w : World) : (binOp .eql 36 (.agg #[.string a, .string b]) (.agg #[.string c, .string d])).run Tryd.prog w = .ok (.bool (a.toList == c.toList && b.toList == d.toList)) w := by
  rw [run_eql_struct, inFld]; rfl
theorem neFld (a b c d : ByteArray) (w : World) : (binOp .neq 36 (.agg #[.string a, .string b]) (.agg #[.string c, .string d])).run Tryd.prog w = .ok (.bool (!(a.toList == c.toList && b.toList == d.toList))) w := by
  rw [run_neq_struct, inFld]; rfl
theorem fld_same {x y : Fld} (h : x = y) : ((bs x.1).toList == (bs y.1).toList && (bs x.2).toList == (bs y.2).toList) = true := by
  subst h; simp
theorem fld_other {x y : Fld} (h : x ≠ y) : ((bs x.1).toList == (bs y.1).toList && (bs x.2).toList == (bs y.2).toList) = false := by
  rw [Bool.and_eq_false_iff]
  by_cases h1 : x.1 = y.1
  · exact .inr (ne_texts fun e => h (Prod.ext h1 e))
  · exact .inl (ne_texts h1)
set_option maxRecDepth 100000 in
set_option maxHeartbeats 4000000 in
theorem SameFields_any (A B : Option Addr) (n m c d : Nat) (xs ys : List Fld) (w : World) (hr : Reads w w.heap.size 2 A n (fldsC xs)) (ht : Reads w w.heap.size 2 B m (fldsC ys)) (hn : n ≤ 1000000) (hm : m ≤ 1000000) :
    Calls Tryd.prog 21 #[.slice A n c, .slice B m d] w fun e w' => e = .returned (.bool (decide (xs = ys))) ∧ ∃ k, w' = w.drewN k := by
  obtain rfl := hr.flen
  obtain rfl := ht.flen
  obtain ⟨R, hR⟩ : ∃ R, decide (xs = ys) = R := ⟨_, rfl⟩
  rw [hR]
  by_cases hl : xs.length = ys.length
  · have hd : ((xs.length : Int) != (ys.length : Int)) = false := by rw [hl]; simp
    have HX := Lib.hid hr
    have HY := Lib.hid ht
    have HR := Lib.hid hR
    have HL := Lib.hid hl
    clear hr ht hR hl
    go_enter Tryd.func21, Tryd.ntmps21
    go_wp2_with fail
    go_loopw [5] (fun i wr => ∃ k j : Nat, i = .int .i64 k ∧ k ≤ xs.length ∧ Hid (xs.take k = ys.take k) ∧ wr = w.drewN j) (fun i _ => xs.length - (intOf i).toNat)
    case atStart => exact ⟨0, 0, rfl, by omega, rfl, rfl⟩
    case round =>
      obtain ⟨k, j, rfl, hk, HT, rfl⟩ := hrel
      by_cases hlt : k < xs.length
      · have hlt2 : k < ys.length := by rw [← HL.out]; exact hlt
        obtain ⟨b, o, rfl, _, c1, c2⟩ := HX.out.fld k hlt
        obtain ⟨b', o', rfl, _, c3, c4⟩ := HY.out.fld k hlt2
        obtain ⟨x, hx⟩ : ∃ x, xs[k] = x := ⟨_, rfl⟩
        obtain ⟨y, hy⟩ : ∃ y, ys[k] = y := ⟨_, rfl⟩
        rw [hx] at c1 c2
        rw [hy] at c3 c4
        have i0 : (0 : Int) ≤ (k : Int) := by omega
        have i1 : (k : Int) < (xs.length : Int) := by omega
        have i2 : (k : Int) < (ys.length : Int) := by omega
        have hNE := neFld (bs x.1) (bs x.2) (bs y.1) (bs y.2)
        have HXY := Lib.hid (And.intro hx hy)
        clear hx hy hd
        by_cases he : x = y
        · rw [fld_same he] at hNE
          have HN : Hid (xs.take (k + 1) = ys.take (k + 1)) := take_succ_eq hlt hlt2 HT.out (by rw [HXY.out.1, HXY.out.2, he])
          clear he
          go_wp2_with fail
          go_quiet (fail)
          go_wp2_with fail
          exact ⟨⟨k + 1, _, by go_num, by omega, HN, rfl⟩, by simp [intOf]; omega⟩
        · rw [fld_other he] at hNE
          have hres : R = false := by
            rw [← HR.out, decide_eq_false_iff_not]
            intro e
            subst e
            exact he (HXY.out.1.symm.trans HXY.out.2)
          subst hres
          clear he
          go_wp2_with fail
          go_quiet (fail)
          go_wp2_with fail
          go_ret
          exact ⟨rfl, _, World.drewN_drewN _ _ _⟩
      · have hkl : k = xs.length := by omega
        subst hkl
        have hd : decide ((xs.length : Int) < (xs.length : Int)) = false := by simp
        have hres : R = true := by
          rw [← HR.out, decide_eq_true_iff]
          have := HT.out
          rw [List.take_length, HL.out, List.take_length] at this
          exact this
        subst hres
        go_wp2_with fail
        go_ret
        exact ⟨rfl, _, rfl⟩
  · have hd : ((xs.length : Int) != (ys.length : Int)) = true := by rw [bne_iff_ne]; omega
    rw [decide_eq_false (fun e => hl (by rw [e]))] at hR
    subst hR
    clear hr ht hl
    go_enter Tryd.func21, Tryd.ntmps21
    go_wp2_with fail
    go_ret
    exact ⟨rfl, 0, rfl⟩

theorem OwnFields_any (A : Option Addr) (n c : Nat) (xs : List Fld) (w : World) (hr : Reads w w.heap.size 2 A n (fldsC xs)) (hn : n ≤ 1000000) :
    Calls Tryd.prog 41 #[.slice A n c] w fun e w' => ∃ B d, e = .returned (.slice B n d) ∧ n ≤ d ∧ Reads w' w'.heap.size 2 B n (fldsC xs) ∧ Below w.heap.size w w' := by
  obtain ⟨i0, hi, hz0, hz1, hz2⟩ := info_parts infoFldA
  have hown := World.ownsRow_made (base := w.heap.size) (e := 36) (size := 2) w #[] 0 (Nat.le_refl _) (Nat.zero_le _) rfl
  have hr2 := hr.alloc (Nat.le_refl _) (.cells #[] 36)
  have HO := Lib.hid hown
  have HR := Lib.hid hr2
  have HI := Lib.hid (And.intro hi (And.intro hz0 (And.intro hz1 hz2)))
  clear hi hz0 hz1 hz2 hown hr2
  obtain ⟨i1, i2, i3, i4⟩ := HI.out
  have hb1 : (0 + n) ≤ maxLen := by unfold maxLen; omega
  have hb2 : (0 + n) * 32 ≤ 140737488355328 := by omega
  have hrun := run_append_any (P := Tryd.prog) (w.alloc (.cells #[] 36)) w.heap.size 24 24 36 i0 (.agg #[.string .empty, .string .empty]) 2 32 Tryd.underlying24 i1 i2 i3 i4 rfl (by decide) _ 0 [] HO.out w.heap.size A n c (fldsC xs) HR.out (fldsC_one xs) hb1 hb2 (by simp)
  obtain ⟨v', w', hrun, ho, hg, hor⟩ := hrun
  rw [List.nil_append, Nat.zero_add] at ho
  obtain ⟨B, d, rfl⟩ := own_slice ho
  have hnd : n ≤ d := own_capA ho
  have HRUN := Lib.hid hrun
  have HF := Lib.hid (And.intro ho hg)
  clear hrun ho hg hor i1 i2 i3 i4 hb1 hb2 hr
  go_enter Tryd.func41, Tryd.ntmps41
  go_wp2_with (at_builtin; refine wpList_append_run HRUN.out rfl _ _ rfl rfl rfl rfl ?_)
  go_ret
  refine ⟨B, d, rfl, hnd, Reads.of_own HF.out.1, ?_⟩
  exact ((Below.refl _ w).alloc (Nat.le_refl _) _).grown HF.out.2 (by simp) (own_ge HO.out)

/-- the bounds of the statements -/
def smallF (f : Fld) : Prop := f.1.length ≤ 100 ∧ f.2.length ≤ 700
def LargePost (l : List Fld) (w : World) (e : Ending) (w' : World) : Prop := ∃ r : Bool, e = .returned (.bool r) ∧ w = w' ∧ (r = false → l.length ≤ 40 ∧ ∀ f ∈ l, smallF f)
end Go.Proofs.YtpdohlnobbimaaaDoor
