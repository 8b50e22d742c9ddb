/-
  TokenLists holds at any two strings and any list of strings.
-/
import Derived.Test.YtepemdmjbfoiaaaDoorLa5
import Derived.Test.YtepemdmjbfoiaaaDoorTr7
namespace Go.Proofs.YtepemdmjbfoiaaaDoor
open Go.RowKit

theorem joinL_len (xs : List (List UInt8)) (h : ∀ x ∈ xs, x.length ≤ 100) : (joinL xs).length ≤ 102 * xs.length := by
  cases xs with
  | nil => simp [joinL, Lib.join_nil]
  | cons x r =>
    have hl : ∀ l : List (List UInt8), (∀ x ∈ l, x.length ≤ 100) → Lib.lens l ≤ 100 * l.length := by
      intro l
      induction l with
      | nil => intro _; simp [Lib.lens]
      | cons a l ih =>
        intro hh
        have h1 := hh a (by simp)
        have h2 := ih fun y hy => hh y (by simp [hy])
        simp only [Lib.lens, List.map_cons, List.sum_cons, List.length_cons] at h2 ⊢
        omega
    unfold joinL
    rw [Lib.join_length]
    have := hl (x :: r) h
    have e : sep2.length = 2 := rfl
    rw [e]
    simp only [List.length_cons] at this ⊢
    omega

set_option maxRecDepth 100000 in
set_option maxHeartbeats 8000000 in
theorem TokenLists_small (s t : ByteArray) (A : Option Addr) (n c : Nat) (xs : List (List UInt8)) (w : World) (hs : s.size ≤ 1100) (ht : t.size ≤ 1100) (hn : n ≤ 20) (hc : n ≤ c) (hr : Reads w w.heap.size 1 A n (strs xs)) (hxl : ∀ x ∈ xs, x.length ≤ 9223372036854775807) :
    Calls Tryd.prog 5 #[.string s, .string t, .slice A n c] w fun e w' => e = .returned (.bool true) ∧ Below w.heap.size w w' := by
  obtain rfl := hr.len
  have d1 : decide ((1100 : Int) < (s.size : Int)) = false := by simp; omega
  have d2 : decide ((1100 : Int) < (t.size : Int)) = false := by simp; omega
  have d3 : decide ((20 : Int) < (xs.length : Int)) = false := by simp; omega
  have c1 := fun w => TList_any s w (by omega)
  have c1' := fun w => rList_any s w (by omega)
  have c2 := fun w => THolds_any s t w (by omega) (by omega)
  have c2' := fun w => rHolds s t w (by omega) (by omega)
  have hlen := (listT_len s.data.toList).1
  obtain ⟨⟨L, e⟩, hL⟩ : ∃ x, listT s.data.toList = x := ⟨_, rfl⟩
  rw [hL] at c1 c1' hlen
  obtain ⟨⟨B, f⟩, hH⟩ : ∃ x, holdsT s.data.toList t.data.toList = x := ⟨_, rfl⟩
  rw [hH] at c2 c2'
  simp only at c2 c2' hlen
  have C1 := Lib.hid c1
  have C1' := Lib.hid c1'
  have C2 := Lib.hid c2
  have C2' := Lib.hid c2'
  have HR := Lib.hid hr
  have HXL := Lib.hid hxl
  clear c1 c1' c2 c2' hL hH hr hxl
  go_enter Tryd.func5, Tryd.ntmps5
  go_wp2_with fail
  go_loop [7] (fun i => ∃ k : Nat, i = .int .i64 k ∧ k ≤ xs.length ∧ Hid (∀ x ∈ xs.take k, x.length ≤ 100)) (fun i => xs.length - (intOf i).toNat)
  case atStart => exact ⟨0, rfl, by omega, hide (by simp)⟩
  case round =>
    obtain ⟨k, rfl, hk, HT⟩ := hrel
    by_cases hlt : k < xs.length
    · obtain ⟨b, o, rfl, hbl, hc0⟩ := HR.out.text k hlt
      obtain ⟨x, hxk⟩ : ∃ x, xs[k] = x := ⟨_, rfl⟩
      have hx := HXL.out xs[k] (List.getElem_mem hlt)
      rw [hxk] at hc0 hx
      have HXK := Lib.hid hxk
      obtain ⟨u, hu⟩ : ∃ u, bs x = u := ⟨_, rfl⟩
      have hus : u.size = x.length := by rw [← hu]; exact bs_size x
      rw [hu] at hc0
      by_cases h100 : x.length ≤ 100
      · have hd : decide ((100 : Int) < (u.size : Int)) = false := by simp; omega
        have HT' : Hid (∀ x ∈ xs.take (k + 1), x.length ≤ 100) := by
          rw [List.take_succ_eq_append_getElem hlt]
          intro y hy
          rcases List.mem_append.1 hy with hy | hy
          · exact HT.out y hy
          · rw [List.mem_singleton.1 hy, HXK.out]; exact h100
        clear hxk hu hus
        go_wp2_with fail
        go_round
        case rel => exact ⟨k + 1, by go_num, by omega, HT'⟩
        case measure => simp [intOf]; omega
      · have hd : decide ((100 : Int) < (u.size : Int)) = true := by simp; omega
        clear hxk hu hus
        go_wp2_with fail
        (with_reducible refine (awake05 _).mono ?_); rintro e w1 ⟨rfl, hb1⟩
        go_wp2_with fail
        go_ret
        exact ⟨rfl, hb1⟩
    · have hkl : k = xs.length := by omega
      subst hkl
      have hd : decide ((xs.length : Int) < (xs.length : Int)) = false := by simp
      have h100 : ∀ x ∈ xs, x.length ≤ 100 := fun x hx => HT.out x (by rw [List.take_length]; exact hx)
      have hjl := joinL_len xs h100
      have CO := Lib.hid (fun w (hr : Reads w w.heap.size 1 A xs.length (strs xs)) => OwnTexts_any A xs.length c xs w hr (by omega))
      have CJ := Lib.hid (fun D d w (hd : xs.length ≤ d) (hr : Reads w w.heap.size 1 D xs.length (strs xs)) => TJoin_any D xs.length d xs w hr (by omega) hd (fun x hx => by have := h100 x hx; omega) (by omega))
      have CJ' := Lib.hid (fun w (hr : Reads w w.heap.size 1 A xs.length (strs xs)) => rJoin A xs.length c xs w hr (by omega) (fun x hx => by have := h100 x hx; omega) (by omega))
      clear h100 hjl
      go_wp2_with fail
      (with_reducible refine (C1.out _).mono ?_); rintro e w1 ⟨A1, cap1, rfl, hr1, hb1⟩
      simp only at hr1
      have HR1 := Lib.hid hr1
      clear hr1
      go_wp2_with fail
      (with_reducible refine (C1'.out _).mono ?_); rintro e w2 ⟨A2, cap2, rfl, hr2, hb2⟩
      simp only at hr2
      have cS := SameTexts_any A1 A2 L.length L.length cap1 cap2 L L w2 ((HR1.out.below hb2).more hb2.size) hr2 (by omega) (by omega)
      rw [beq_self_eq_true] at cS
      have CS := Lib.hid cS
      have hb2' := hb1.trans (hb2.mono hb1.size)
      clear cS hr2
      go_wp2_with fail
      (with_reducible refine (CS.out).mono ?_); rintro e w3 ⟨rfl, m3, rfl⟩
      go_wp2_with fail
      (with_reducible refine (C2.out _).mono ?_); rintro e w4 ⟨rfl, hb4⟩
      have hb4' := (below_drewN hb2' m3).trans (hb4.mono hb2'.size)
      go_wp2_with fail
      (with_reducible refine (C2'.out _).mono ?_); rintro e w5 ⟨rfl, hb5⟩
      have hb5' := hb4'.trans (hb5.mono hb4'.size)
      go_wp2_with fail
      (with_reducible refine (CO.out _ ((HR.out.below hb5').more hb5'.size)).mono ?_); rintro e w6 ⟨D, d, rfl, hd6, hr6, hb6⟩
      have HR6 := Lib.hid hr6
      have hb6' := hb5'.trans (hb6.mono hb5'.size)
      clear hr6
      go_wp2_with fail
      (with_reducible refine (CJ.out _ _ _ hd6 HR6.out).mono ?_); rintro e w7 ⟨rfl, hb7⟩
      have hb7' := hb6'.trans (hb7.mono hb6'.size)
      go_wp2_with fail
      (with_reducible refine (CJ'.out _ ((HR.out.below hb7').more hb7'.size)).mono ?_); rintro e w8 ⟨rfl, rfl⟩
      have cS := SameTexts_any D A xs.length xs.length d c xs xs w7 ((HR6.out.below hb7).more hb7.size) ((HR.out.below hb7').more hb7'.size) (by omega) (by omega)
      rw [beq_self_eq_true] at cS
      have CS2 := Lib.hid cS
      clear cS
      go_wp2_with fail
      (with_reducible refine (CS2.out).mono ?_); rintro e w9 ⟨rfl, m9, rfl⟩
      go_wp2_with fail
      (with_reducible refine (awake05 _).mono ?_); rintro e w10 ⟨rfl, hb10⟩
      go_wp2_with fail
      go_ret
      exact ⟨rfl, (below_drewN hb7' m9).trans (hb10.mono hb7'.size)⟩

theorem TokenLists_true (s t : ByteArray) (A : Option Addr) (n c : Nat) (xs : List (List UInt8)) (w : World) (hs : s.size ≤ 9223372036854775807) (ht : t.size ≤ 9223372036854775807) (hn : n ≤ 9223372036854775807) (hc : n ≤ c) (hr : Reads w w.heap.size 1 A n (strs xs)) (hxl : ∀ x ∈ xs, x.length ≤ 9223372036854775807) :
    Calls Tryd.prog 5 #[.string s, .string t, .slice A n c] w fun e w' => e = .returned (.bool true) ∧ Below w.heap.size w w' := by
  by_cases h1 : s.size ≤ 1100
  · by_cases h2 : t.size ≤ 1100
    · by_cases h3 : n ≤ 20
      · exact TokenLists_small s t A n c xs w h1 h2 h3 hc hr hxl
      · have d1 : decide ((1100 : Int) < (s.size : Int)) = false := by simp; omega
        have d2 : decide ((1100 : Int) < (t.size : Int)) = false := by simp; omega
        have d3 : decide ((20 : Int) < (n : Int)) = true := by simp; omega
        clear hr hxl
        go_enter Tryd.func5, Tryd.ntmps5
        go_wp2_with fail
        (with_reducible refine (awake05 _).mono ?_); rintro e w1 ⟨rfl, hb1⟩
        go_wp2_with fail
        go_ret
        exact ⟨rfl, hb1⟩
    · have d1 : decide ((1100 : Int) < (s.size : Int)) = false := by simp; omega
      have d2 : decide ((1100 : Int) < (t.size : Int)) = true := by simp; omega
      clear hr hxl
      go_enter Tryd.func5, Tryd.ntmps5
      go_wp2_with fail
      (with_reducible refine (awake05 _).mono ?_); rintro e w1 ⟨rfl, hb1⟩
      go_wp2_with fail
      go_ret
      exact ⟨rfl, hb1⟩
  · have d1 : decide ((1100 : Int) < (s.size : Int)) = true := by simp; omega
    clear hr hxl
    go_enter Tryd.func5, Tryd.ntmps5
    go_wp2_with fail
    (with_reducible refine (awake05 _).mono ?_); rintro e w1 ⟨rfl, hb1⟩
    go_wp2_with fail
    go_ret
    exact ⟨rfl, hb1⟩
end Go.Proofs.YtepemdmjbfoiaaaDoor
