/-
  The reference of tokens (waypostref05): Join; waypostkit.OwnTexts.
-/
import Derived.Test.YtepemdmjbfoiaaaDoorTr6
namespace Go.Proofs.YtepemdmjbfoiaaaDoor
open Go.RowKit

set_option maxRecDepth 100000 in
set_option maxHeartbeats 4000000 in
theorem rJoin (A : Option Addr) (n c : Nat) (xs : List (List UInt8)) (w : World) (hr : Reads w w.heap.size 1 A n (strs xs)) (hn : n ≤ 1000000) (hx : ∀ x ∈ xs, x.length ≤ 1000000) (hlen : (joinL xs).length ≤ 1000000) :
    Calls Tryd.prog 39 #[.slice A n c] w fun e w' => e = .returned (.tuple #[.string (bs (joinT xs).1), .int .i64 (joinT xs).2]) ∧ w = w' := by
  obtain rfl := hr.len
  obtain ⟨X, hX⟩ : ∃ X, joinT xs = X := ⟨_, rfl⟩
  rw [hX]
  have HX := Lib.hid hX
  have CI := Lib.hid rIs
  have HR := Lib.hid hr
  have HXS := Lib.hid hx
  clear hX hr hx
  go_enter Tryd.func39, Tryd.ntmps39
  go_wp2_with fail
  go_loop [4, 5] (fun o i => ∃ k : Nat, i = .int .i64 k ∧ k ≤ xs.length ∧ Hid (∀ x ∈ xs.take k, isTok x = true) ∧ ∃ u : ByteArray, o = .string u ∧ Hid (u = bs (joinL (xs.take k)))) (fun _ i => xs.length - (intOf i).toNat)
  case atStart => exact ⟨0, rfl, by omega, hide (by simp), _, rfl, hide rfl⟩
  case round =>
    obtain ⟨k, rfl, hk, HT, u, rfl, HU⟩ := hrel
    by_cases hlt : k < xs.length
    · obtain ⟨b, o, rfl, hbl, hc0⟩ := HR.out.text k hlt
      obtain ⟨x, hxk⟩ : ∃ x, xs[k] = x := ⟨_, rfl⟩
      have hxl := HXS.out xs[k] (List.getElem_mem hlt)
      rw [hxk] at hc0 hxl
      have cI := fun w => CI.out (bs x) w (by rw [bs_size]; omega)
      rw [bs_list] at cI
      have hbx : (bs x).size ≤ 1000000 := by rw [bs_size]; exact hxl
      have HXK := Lib.hid hxk
      clear hxk
      rcases Bool.eq_false_or_eq_true (isTok x) with ht | ht
      · rw [ht] at cI
        have CI' := Lib.hid cI
        have HT' : Hid (∀ x ∈ xs.take (k + 1), isTok x = true) := by
          rw [List.take_succ_eq_append_getElem hlt]
          intro y hy
          rcases List.mem_append.1 hy with hy | hy
          · exact HT.out y hy
          · rw [List.mem_singleton.1 hy, HXK.out]; exact ht
        have hj := joinL_succ xs k hlt
        rw [HXK.out] at hj
        have hul : u.size ≤ 1000000 := by rw [HU.out, bs_size]; have := joinL_take_le xs k; omega
        by_cases hk0 : k = 0
        · rw [if_pos hk0] at hj
          have HU' : Hid (u ++ bs x = bs (joinL (xs.take (k + 1)))) := by
            show _ = _
            rw [hj, HU.out]
            exact ba_ext (by rw [append_toList, bs_list, bs_list, hk0, List.take_zero, joinL_nil]; rfl)
          have hz : decide ((0 : Int) < (k : Int)) = false := by simp; omega
          have hz2 : decide (0 < k) = false := by simp; omega
          clear cI ht hj hk0
          go_wp2_with fail
          (with_reducible refine (CI'.out _).mono ?_); rintro e w1 ⟨rfl, rfl⟩
          go_wp2_with fail
          exact ⟨⟨k + 1, by go_num, by omega, HT', _, rfl, HU'⟩, by simp [intOf]; omega⟩
        · rw [if_neg hk0] at hj
          have HU' : Hid ((u ++ ⟨#[44, 32]⟩) ++ bs x = bs (joinL (xs.take (k + 1)))) := by
            show _ = _
            rw [hj, HU.out]
            exact ba_ext (by rw [append_toList, append_toList, bs_list, bs_list, bs_list]; rfl)
          have hpos : decide ((0 : Int) < (k : Int)) = true := by simp; omega
          have hpos2 : decide (0 < k) = true := by simp; omega
          clear cI ht hj
          go_wp2_with fail
          (with_reducible refine (CI'.out _).mono ?_); rintro e w1 ⟨rfl, rfl⟩
          go_wp2_with fail
          exact ⟨⟨k + 1, by go_num, by omega, HT', _, rfl, HU'⟩, by simp [intOf]; omega⟩
      · rw [ht] at cI
        have CI' := Lib.hid cI
        have hX := HX.out
        have hf : xs.all isTok = false := by
          rw [List.all_eq_false]; exact ⟨xs[k], List.getElem_mem hlt, by rw [HXK.out, ht]; simp⟩
        unfold joinT at hX
        rw [hf, if_neg (by simp)] at hX
        subst hX
        clear cI ht hf
        go_wp2_with fail
        (with_reducible refine (CI'.out _).mono ?_); rintro e w1 ⟨rfl, rfl⟩
        go_wp2_with fail
        go_ret2
        exact ⟨rfl, rfl⟩
    · have hkl : k = xs.length := by omega
      subst hkl
      have hd : decide ((xs.length : Int) < (xs.length : Int)) = false := by simp
      have hX := HX.out
      have hf : xs.all isTok = true := by
        rw [List.all_eq_true]; intro y hy; exact HT.out y (by rw [List.take_length]; exact hy)
      unfold joinT at hX
      rw [hf, if_pos rfl] at hX
      subst hX
      have hu := HU.out
      rw [List.take_length] at hu
      subst hu
      clear hf
      go_wp2_with fail
      go_ret2
      exact ⟨rfl, rfl⟩

theorem OwnTexts_any (A : Option Addr) (n c : Nat) (xs : List (List UInt8)) (w : World) (hr : Reads w w.heap.size 1 A n (strs xs)) (hn : n ≤ 1000000) :
    Calls Tryd.prog 38 #[.slice A n c] w fun e w' => ∃ B d, e = .returned (.slice B n d) ∧ n ≤ d ∧ Reads w' w'.heap.size 1 B n (strs xs) ∧ Below w.heap.size w w' := by
  obtain ⟨i0, hi, hz0, hz1, hz2⟩ := info_parts infoStr
  have hown := World.ownsRow_made (base := w.heap.size) (e := 9) (size := 1) w #[] 0 (Nat.le_refl _) (Nat.zero_le _) rfl
  have hr2 := hr.alloc (Nat.le_refl _) (.cells #[] 9)
  have HO := Lib.hid hown
  have HR := Lib.hid hr2
  have HI := Lib.hid (And.intro hi (And.intro hz0 (And.intro hz1 hz2)))
  clear hi hz0 hz1 hz2 hown hr2
  obtain ⟨i1, i2, i3, i4⟩ := HI.out
  have hb1 : (0 + n) ≤ maxLen := by unfold maxLen; omega
  have hb2 : (0 + n) * 16 ≤ 140737488355328 := by omega
  have hrun := run_append_any (P := Tryd.prog) (w.alloc (.cells #[] 9)) w.heap.size 24 24 9 i0 (.string .empty) 1 16 Tryd.underlying24 i1 i2 i3 i4 rfl (by decide) _ 0 [] HO.out w.heap.size A n c (strs xs) HR.out (strs_one xs) hb1 hb2 (by simp)
  obtain ⟨v', w', hrun, ho, hg, hor⟩ := hrun
  rw [List.nil_append, Nat.zero_add] at ho
  obtain ⟨B, d, rfl⟩ := own_slice ho
  have hnd : n ≤ d := by
    rcases ho.2 with ⟨h0, h1⟩ | ⟨g, cap, cur, h0, _, _, h1, _⟩
    · omega
    · injection h0 with _ _ h2; omega
  have HRUN := Lib.hid hrun
  have HF := Lib.hid (And.intro ho hg)
  clear hrun ho hg hor i1 i2 i3 i4 hb1 hb2 hr
  go_enter Tryd.func38, Tryd.ntmps38
  go_wp2_with (at_builtin; refine wpList_append_run HRUN.out rfl _ _ rfl rfl rfl rfl ?_)
  go_ret
  refine ⟨B, d, rfl, hnd, Reads.of_own HF.out.1, ?_⟩
  exact ((Below.refl _ w).alloc (Nat.le_refl _) _).grown HF.out.2 (by simp) (own_ge HO.out)
end Go.Proofs.YtepemdmjbfoiaaaDoor
