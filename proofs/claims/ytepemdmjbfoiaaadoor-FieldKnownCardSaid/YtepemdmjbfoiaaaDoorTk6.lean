/-
  The contracts of slices.Contains on texts, and of package token's Holds and Join.
-/
import Derived.Test.YtepemdmjbfoiaaaDoorRd
import Derived.Test.YtepemdmjbfoiaaaDoorTl2
namespace Go.Proofs.YtepemdmjbfoiaaaDoor
open Go.RowKit

theorem Contains_any (A : Option Addr) (n c : Nat) (xs : List (List UInt8)) (x : ByteArray) (w : World) (hr : Reads w w.heap.size 1 A n (strs xs)) (hn : n ≤ 1000000) :
    Calls Tryd.prog 100 #[.slice A n c, .string x] w fun e w' => e = .returned (.bool (xs.contains x.data.toList)) ∧ w' = w := by
  obtain rfl := hr.len
  by_cases h0 : xs.length = 0
  · obtain rfl := List.eq_nil_of_length_eq_zero h0
    exact (Tryd.slices_Contains_string_empty A c x w).mono fun e w' ⟨he, hw⟩ => ⟨he, hw⟩
  · obtain ⟨b, o, rfl, hb, hc⟩ := hr.lit (by omega)
    refine (Tryd.slices_Contains_string b o xs.length c (xs.map bs) x w (by simp) (by omega) fun j hj => ?_).mono fun e w' ⟨he, hw⟩ => ⟨?_, hw⟩
    · rw [List.length_map] at hj
      rw [hc j _ (strs_at xs j hj), List.getD_eq_getElem?_getD, List.getElem?_map, List.getElem?_eq_getElem hj]
      rfl
    · rw [he]
      congr 2
      rw [List.take_of_length_le (by simp), Bool.eq_iff_iff, Lib.containsS_iff, List.mem_map]
      rw [List.contains_iff_mem]
      constructor
      · rintro ⟨y, hy, rfl⟩; exact hy
      · intro hy; exact ⟨_, hy, rfl⟩

set_option maxRecDepth 100000 in
set_option maxHeartbeats 4000000 in
theorem THolds_any (s t : ByteArray) (w : World) (hs : s.size ≤ 1000000) (ht : t.size ≤ 1000000) :
    Calls Tryd.prog 25 #[.string s, .string t] w fun e w' => e = .returned (.tuple #[.bool (holdsT s.data.toList t.data.toList).1, .int .i64 (holdsT s.data.toList t.data.toList).2]) ∧ Below w.heap.size w w' := by
  have hlen := (listT_len s.data.toList).1
  have cL := fun w => TList_any s w hs
  have hH : holdsT s.data.toList t.data.toList = if (listT s.data.toList).2 ≠ 0 then (false, (listT s.data.toList).2) else if isTok t.data.toList = false then (false, 3) else ((listT s.data.toList).1.contains (lowL t.data.toList), 0) := rfl
  rw [hH]
  clear hH
  obtain ⟨L, e, hL⟩ : ∃ L e, listT s.data.toList = (L, e) := ⟨_, _, rfl⟩
  rw [hL] at cL hlen ⊢
  simp only at hlen ⊢
  have CL := Lib.hid cL
  have cI := fun w => TIs_any t w (by omega)
  have cW := fun w => TLower_any t w (by omega)
  have CW := Lib.hid cW
  clear cL cW hL
  by_cases he : e = 0
  · subst he
    rw [if_neg (by simp)]
    have e1 : (((0 : Nat) : Int) == 0) = true := rfl
    rcases Bool.eq_false_or_eq_true (isTok t.data.toList) with hk | hk
    · rw [hk] at cI ⊢
      rw [if_neg (by simp)]
      obtain ⟨R, hR⟩ : ∃ R, L.contains (lowL t.data.toList) = R := ⟨_, rfl⟩
      rw [hR]
      have HRR := Lib.hid hR
      have CI := Lib.hid cI
      clear cI hk hR
      go_enter Tryd.func25, Tryd.ntmps25
      go_wp2_with fail
      (with_reducible refine (CL.out _).mono ?_); rintro e w1 ⟨A, cap, rfl, hr, hb1⟩
      simp only at hr
      have HR := Lib.hid hr
      clear hr
      go_wp2_with fail
      (with_reducible refine (CI.out _).mono ?_); rintro e w2 ⟨rfl, hb2⟩
      go_wp2_with fail
      (with_reducible refine (CW.out _).mono ?_); rintro e w3 ⟨rfl, hb3⟩
      have hr3 := ((HR.out.below hb2).below (hb3.mono hb2.size)).more (Nat.le_trans hb2.size hb3.size)
      have cC := Contains_any A L.length cap L (low t) w3 hr3 (by omega)
      rw [low_list, HRR.out] at cC
      have CC := Lib.hid cC
      clear cC hr3
      go_wp2_with fail
      (with_reducible refine (CC.out).mono ?_); rintro e w4 ⟨rfl, rfl⟩
      go_wp2_with fail
      go_ret2
      exact ⟨rfl, (hb1.trans (hb2.mono hb1.size)).trans (hb3.mono (Nat.le_trans hb1.size hb2.size))⟩
    · rw [hk] at cI ⊢
      rw [if_pos rfl]
      have CI := Lib.hid cI
      clear cI hk
      go_enter Tryd.func25, Tryd.ntmps25
      go_wp2_with fail
      (with_reducible refine (CL.out _).mono ?_); rintro e w1 ⟨A, cap, rfl, hr, hb1⟩
      clear hr
      go_wp2_with fail
      (with_reducible refine (CI.out _).mono ?_); rintro e w2 ⟨rfl, hb2⟩
      go_wp2_with fail
      go_ret2
      exact ⟨rfl, hb1.trans (hb2.mono hb1.size)⟩
  · rw [if_pos he]
    have e1 : ((e : Int) == 0) = false := beq_eq_false_iff_ne.2 (by omega)
    have e2 : ((e : Int) != 0) = true := by rw [bne_iff_ne]; omega
    clear cI
    go_enter Tryd.func25, Tryd.ntmps25
    go_wp2_with fail
    (with_reducible refine (CL.out _).mono ?_); rintro e w1 ⟨A, cap, rfl, hr, hb1⟩
    clear hr
    go_wp2_with fail
    go_ret2
    exact ⟨rfl, hb1⟩

theorem Join_any (A : Option Addr) (n c : Nat) (xs : List (List UInt8)) (w : World) (hr : Reads w w.heap.size 1 A n (strs xs)) (hn : n ≤ 1000000) (hc : n ≤ c) (hlen : (joinL xs).length ≤ 1000000) :
    Calls Tryd.prog 98 #[.slice A n c, .string ⟨#[44, 32]⟩] w fun e w' => e = .returned (.string (bs (joinL xs))) ∧ Below w.heap.size w w' := by
  obtain rfl := hr.len
  by_cases h0 : xs.length = 0
  · obtain rfl := List.eq_nil_of_length_eq_zero h0
    exact (Tryd.strings_Join_none A c ⟨#[44, 32]⟩ w).mono fun e w' ⟨he, hw⟩ => ⟨he, hw ▸ Below.refl _ _⟩
  · obtain ⟨b, o, rfl, hb, hcell⟩ := hr.lit (by omega)
    have em : (xs.map bs).map (·.data.toList) = xs := by rw [List.map_map, show ((fun x : ByteArray => x.data.toList) ∘ bs) = id from rfl, List.map_id]
    have h := Tryd.strings_Join b o c (xs.map bs) ⟨#[44, 32]⟩ w (fun j x hj => by
      rw [List.getElem?_map] at hj
      cases e : xs[j]? with
      | none => rw [e] at hj; simp at hj
      | some y =>
        rw [e] at hj
        simp only [Option.map_some, Option.some.injEq] at hj
        subst hj
        have hjl := (List.getElem?_eq_some_iff.1 e).1
        rw [hcell j _ (strs_at xs j hjl), (List.getElem?_eq_some_iff.1 e).2]) hb (by simp; omega) (by simp; omega) (by rw [em]; exact Nat.le_trans hlen (by omega))
    rw [em, List.length_map] at h
    exact h

set_option maxRecDepth 100000 in
set_option maxHeartbeats 4000000 in
theorem TJoin_any (A : Option Addr) (n c : Nat) (xs : List (List UInt8)) (w : World) (hr : Reads w w.heap.size 1 A n (strs xs)) (hn : n ≤ 1000000) (hc : n ≤ c) (hx : ∀ x ∈ xs, x.length ≤ 1000000) (hlen : (joinL xs).length ≤ 1000000) :
    Calls Tryd.prog 22 #[.slice A n c] w fun e w' => e = .returned (.tuple #[.string (bs (joinT xs).1), .int .i64 (joinT xs).2]) ∧ Below w.heap.size w w' := by
  obtain rfl := hr.len
  obtain ⟨X, hX⟩ : ∃ X, joinT xs = X := ⟨_, rfl⟩
  rw [hX]
  have HX := Lib.hid hX
  have CJ := Lib.hid (fun w (hr : Reads w w.heap.size 1 A xs.length (strs xs)) => Join_any A xs.length c xs w hr hn hc hlen)
  have CI := Lib.hid TIs_any
  have HR := Lib.hid hr
  have HXS := Lib.hid hx
  clear hX hr hx
  go_enter Tryd.func22, Tryd.ntmps22
  go_wp2_with fail
  go_loopw [8] (fun i wr => ∃ k : Nat, i = .int .i64 k ∧ k ≤ xs.length ∧ Hid (∀ x ∈ xs.take k, isTok x = true) ∧ Below w.heap.size w wr) (fun i _ => xs.length - (intOf i).toNat)
  case atStart => exact ⟨0, rfl, by omega, hide (by simp), Below.refl _ _⟩
  case round =>
    obtain ⟨k, rfl, hk, HT, hb⟩ := hrel
    rename World => W0
    by_cases hlt : k < xs.length
    · obtain ⟨b, o, rfl, hbl, hcell⟩ := HR.out.text k hlt
      have hc0 := (hb.cell (p := ⟨b, o + k, none⟩) hbl).trans hcell
      obtain ⟨x, hxk⟩ : ∃ x, xs[k] = x := ⟨_, rfl⟩
      have hxl := HXS.out xs[k] (List.getElem_mem hlt)
      rw [hxk] at hc0 hxl
      have cI := fun w => CI.out (bs x) w (by rw [bs_size]; omega)
      rw [bs_list] at cI
      have HXK := Lib.hid hxk
      clear hcell hxk
      rcases Bool.eq_false_or_eq_true (isTok x) with ht | ht
      · rw [ht] at cI
        have CI' := Lib.hid cI
        have HT' : Hid (∀ x ∈ xs.take (k + 1), isTok x = true) := by
          rw [List.take_succ_eq_append_getElem hlt]
          intro y hy
          rcases List.mem_append.1 hy with hy | hy
          · exact HT.out y hy
          · rw [List.mem_singleton.1 hy, HXK.out]; exact ht
        clear cI ht
        go_wp2_with fail
        (with_reducible refine (CI'.out _).mono ?_); rintro e w1 ⟨rfl, hb1⟩
        go_wp2_with fail
        go_roundw
        case rel => exact ⟨k + 1, by go_num, by omega, HT', hb.trans (hb1.mono hb.size)⟩
        case measure => simp [intOf]; omega
      · rw [ht] at cI
        have CI' := Lib.hid cI
        have hX := HX.out
        have hf : xs.all isTok = false := by
          rw [List.all_eq_false]; exact ⟨xs[k], List.getElem_mem hlt, by rw [HXK.out, ht]; simp⟩
        unfold joinT at hX
        rw [hf, if_neg (by simp)] at hX
        subst hX
        clear cI ht hf
        go_wp2_with fail
        (with_reducible refine (CI'.out _).mono ?_); rintro e w1 ⟨rfl, hb1⟩
        go_wp2_with fail
        go_ret2
        exact ⟨rfl, hb.trans (hb1.mono hb.size)⟩
    · have hkl : k = xs.length := by omega
      subst hkl
      have hd : decide ((xs.length : Int) < (xs.length : Int)) = false := by simp
      have hX := HX.out
      have hf : xs.all isTok = true := by
        rw [List.all_eq_true]; intro y hy; exact HT.out y (by rw [List.take_length]; exact hy)
      unfold joinT at hX
      rw [hf, if_pos rfl] at hX
      subst hX
      clear hf
      go_wp2_with fail
      (with_reducible refine (CJ.out _ ((HR.out.below hb).more hb.size)).mono ?_); rintro e w1 ⟨rfl, hb1⟩
      go_wp2_with fail
      go_ret2
      exact ⟨rfl, hb.trans (hb1.mono hb.size)⟩
end Go.Proofs.YtepemdmjbfoiaaaDoor
