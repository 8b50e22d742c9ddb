/-
  What the statements on tokens call besides: lists, colon, none, awake.
-/
import Derived.Test.YtepemdmjbfoiaaaDoorTk6
import Derived.Test.YtepemdmjbfoiaaaDoorTr5
import Derived.Test.YtepemdmjbfoiaaaDoorKt1
namespace Go.Proofs.YtepemdmjbfoiaaaDoor
open Go.RowKit

theorem Is_at (b : Bool) (s : ByteArray) (w : World) (hs : s.size ≤ 1000000) (h : isTok s.data.toList = b) :
    Calls Tryd.prog 28 #[.string s] w fun e w' => e = .returned (.bool b) ∧ Below w.heap.size w w' := by
  subst h; exact TIs_any s w (by omega)
theorem Value_at (b : Bool) (s : ByteArray) (w : World) (hs : s.size ≤ 1000000) (h : isVal s.data.toList = b) :
    Calls Tryd.prog 29 #[.string s] w fun e w' => e = .returned (.bool b) ∧ Below w.heap.size w w' := by
  subst h; exact TValue_any s w (by omega)
theorem Holds_at (b : Bool) (e0 : Nat) (s t : ByteArray) (w : World) (hs : s.size ≤ 1000000) (ht : t.size ≤ 1000000) (h : holdsT s.data.toList t.data.toList = (b, e0)) :
    Calls Tryd.prog 25 #[.string s, .string t] w fun e w' => e = .returned (.tuple #[.bool b, .int .i64 e0]) ∧ Below w.heap.size w w' := by
  have := THolds_any s t w hs ht
  rw [h] at this
  exact this

def listsT (s : List UInt8) (want : List (List UInt8)) : Bool := (listT s).2 == 0 && (listT s).1 == want
theorem lists_any (s : ByteArray) (A : Option Addr) (n c : Nat) (want : List (List UInt8)) (w : World) (hs : s.size ≤ 1000000) (hr : Reads w w.heap.size 1 A n (strs want)) (hn : n ≤ 1000000) :
    Calls Tryd.prog 30 #[.string s, .slice A n c] w fun e w' => e = .returned (.bool (listsT s.data.toList want)) ∧ Below w.heap.size w w' := by
  have hlen := (listT_len s.data.toList).1
  have cL := fun w => TList_any s w hs
  unfold listsT
  obtain ⟨L, e, hL⟩ : ∃ L e, listT s.data.toList = (L, e) := ⟨_, _, rfl⟩
  rw [hL] at cL hlen ⊢
  simp only at hlen ⊢
  have CL := Lib.hid cL
  have HR := Lib.hid hr
  clear cL hL hr
  obtain ⟨R, hR⟩ : ∃ R, (L == want) = R := ⟨_, rfl⟩
  rw [hR]
  have HRR := Lib.hid hR
  clear hR
  by_cases he : e = 0
  · subst he
    have e1 : (((0 : Nat) : Int) == 0) = true := rfl
    go_enter Tryd.func30, Tryd.ntmps30
    go_wp2_with fail
    (with_reducible refine (CL.out _).mono ?_); rintro e w1 ⟨A1, cap, rfl, hr1, hb1⟩
    have cS := SameTexts_any A1 A L.length n cap c L want w1 hr1 ((HR.out.below hb1).more hb1.size) (by omega) hn
    rw [HRR.out] at cS
    have CS := Lib.hid cS
    clear cS hr1
    go_wp2_with fail
    (with_reducible refine (CS.out).mono ?_); rintro e w2 ⟨rfl, m, rfl⟩
    go_wp2_with fail
    go_ret
    exact ⟨ret_bool (by simp), below_drewN hb1 m⟩
  · have e1 : ((e : Int) == 0) = false := beq_eq_false_iff_ne.2 (by omega)
    have e2 : (e == 0) = false := beq_eq_false_iff_ne.2 he
    rw [e2]
    clear e2
    go_enter Tryd.func30, Tryd.ntmps30
    go_wp2_with fail
    (with_reducible refine (CL.out _).mono ?_); rintro e w1 ⟨A1, cap, rfl, hr1, hb1⟩
    clear hr1
    go_wp2_with fail
    go_ret
    exact ⟨ret_bool (by simp), hb1⟩

theorem lists_at (b : Bool) (want : List (List UInt8)) (s : ByteArray) (cs : Array Value) (t : TypeId) (n c : Nat) (w : World) (hs : s.size ≤ 1000000) (hc : cs.toList = strs want) (hn : n = want.length) (hl : want.length ≤ 1000) (h : listsT s.data.toList want = b) :
    Calls Tryd.prog 30 #[.string s, .slice (some ⟨w.heap.size, 0, none⟩) n c] (w.alloc (.cells cs t)) fun e w' => e = .returned (.bool b) ∧ Below w.heap.size w w' := by
  subst hn h
  exact (lists_any s _ want.length c want _ hs (reads_new w t want cs hc) (by omega)).mono fun e w' ⟨he, hb⟩ => ⟨he, ((Below.refl _ _).alloc (Nat.le_refl _) _).trans (hb.mono (by simp))⟩
theorem bs_eq (x : List UInt8) (s : ByteArray) : ((bs x).toList == s.toList) = (x == s.data.toList) := by
  rw [Lib.toList_data, Lib.toList_data, bs_list]
theorem colon_any (s n v : ByteArray) (w : World) (hs : s.size ≤ 1000000) (N V : List UInt8) (e0 : Nat) (h : colT s.data.toList = (N, V, e0)) (b1 b2 b3 : Bool) (h1 : (e0 == 0) = b1) (h2 : (N == n.data.toList) = b2) (h3 : (V == v.data.toList) = b3) :
    Calls Tryd.prog 35 #[.string s, .string n, .string v] w fun e w' => e = .returned (.bool (b1 && b2 && b3)) ∧ Below w.heap.size w w' := by
  have cC := fun w => TColon_any s w hs
  rw [h] at cC
  simp only at cC
  have CC := Lib.hid cC
  have k1 : ((e0 : Int) == 0) = b1 := by
    subst h1
    by_cases he : e0 = 0
    · subst he; rfl
    · rw [beq_eq_false_iff_ne.2 (show (e0 : Int) ≠ 0 by omega), beq_eq_false_iff_ne.2 he]
  have k2 : ((bs N).toList == n.toList) = b2 := by rw [bs_eq, h2]
  have k3 : ((bs V).toList == v.toList) = b3 := by rw [bs_eq, h3]
  clear cC h h1 h2 h3
  cases b1 <;> cases b2 <;> cases b3
  all_goals (
    go_enter Tryd.func35, Tryd.ntmps35
    go_wp2_with fail
    (with_reducible refine (CC.out _).mono ?_); rintro e w1 ⟨rfl, hb1⟩
    go_wp2_with fail
    go_ret
    exact ⟨rfl, hb1⟩)

set_option maxRecDepth 100000 in
set_option maxHeartbeats 4000000 in
theorem awake05 (w : World) : Calls Tryd.prog 33 #[] w fun e w' => e = .returned (.bool true) ∧ Below w.heap.size w w' := by
  go_enter Tryd.func33, Tryd.ntmps33
  go_wp2_with fail
  (with_reducible refine (Holds_at true 0 _ _ _ (by decide) (by decide) (by decide +kernel)).mono ?_); rintro e w1 ⟨rfl, hb1⟩
  go_wp2_with fail
  (with_reducible refine (Is_at true _ _ (by decide) (by decide +kernel)).mono ?_); rintro e w2 ⟨rfl, hb2⟩
  have hb2' := hb1.trans (hb2.mono hb1.size)
  go_wp2_with fail
  (with_reducible refine (Is_at false _ _ (by decide) (by decide +kernel)).mono ?_); rintro e w3 ⟨rfl, hb3⟩
  have hb3' := hb2'.trans (hb3.mono hb2'.size)
  go_wp2_with fail
  (with_reducible refine (Value_at true _ _ (by decide) (by decide +kernel)).mono ?_); rintro e w4 ⟨rfl, hb4⟩
  have hb4' := hb3'.trans (hb4.mono hb3'.size)
  go_wp2_with fail
  (with_reducible refine (Value_at false _ _ (by decide) (by decide +kernel)).mono ?_); rintro e w5 ⟨rfl, hb5⟩
  have hb5' := hb4'.trans (hb5.mono hb4'.size)
  go_wp2_with fail
  (with_reducible refine (lists_at true [[99, 108, 111, 115, 101], [107, 101, 101, 112, 45, 97, 108, 105, 118, 101]] _ _ _ _ _ _ (by decide) (by with_unfolding_all rfl) (by with_unfolding_all rfl) (by decide) (by decide +kernel)).mono ?_); rintro e w6 ⟨rfl, hb6⟩
  have hb6' := hb5'.trans (hb6.mono hb5'.size)
  go_wp2_with fail
  (with_reducible refine (colon_any _ _ _ _ (by decide) [72, 111, 115, 116] [97, 46, 98] 0 (by decide +kernel) true true true (by decide) (by decide +kernel) (by decide +kernel)).mono ?_); rintro e w7 ⟨rfl, hb7⟩
  have hb7' := hb6'.trans (hb7.mono hb6'.size)
  go_wp2_with fail
  go_ret
  exact ⟨rfl, hb7'⟩
end Go.Proofs.YtepemdmjbfoiaaaDoor
