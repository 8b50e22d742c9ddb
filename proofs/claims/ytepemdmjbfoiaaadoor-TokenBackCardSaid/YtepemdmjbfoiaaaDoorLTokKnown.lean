/-
  TokenKnown: the chapter's examples have the results given there.
-/
import Derived.Test.YtepemdmjbfoiaaaDoorLa5
namespace Go.Proofs.YtepemdmjbfoiaaaDoor
open Go.RowKit

theorem lists_nil_at (b : Bool) (s : ByteArray) (w : World) (hs : s.size ≤ 1000000) (h : listsT s.data.toList [] = b) :
    Calls Tryd.prog 30 #[.string s, .slice none 0 0] w fun e w' => e = .returned (.bool b) ∧ Below w.heap.size w w' := by
  subst h; exact lists_any s none 0 0 [] w hs Reads.none_ (by omega)
theorem Trim_at (l : List UInt8) (s : ByteArray) (w : World) (hs : s.size ≤ 1000000) (h : trimL s.data.toList = l) :
    Calls Tryd.prog 31 #[.string s] w fun e w' => e = .returned (.string ⟨l.toArray⟩) ∧ Below w.heap.size w w' := by
  subst h; exact TTrim_any s w (by omega)
theorem Same_at (b : Bool) (s t : ByteArray) (w : World) (hs : s.size ≤ 1000000) (ht : t.size ≤ 1000000) (h : (lowL s.data.toList == lowL t.data.toList) = b) :
    Calls Tryd.prog 27 #[.string s, .string t] w fun e w' => e = .returned (.bool b) ∧ Below w.heap.size w w' := by
  subst h; exact TSame_any s t w (by omega) (by omega)
theorem List_at (L : List (List UInt8)) (e0 : Nat) (s : ByteArray) (w : World) (hs : s.size ≤ 1000000) (h : listT s.data.toList = (L, e0)) :
    Calls Tryd.prog 23 #[.string s] w fun e w' => ∃ A cap, e = .returned (.tuple #[.slice A L.length cap, .int .i64 e0]) ∧ Below w.heap.size w w' := by
  have := TList_any s w hs
  rw [h] at this
  exact this.mono fun e w' ⟨A, cap, he, _, hb⟩ => ⟨A, cap, he, hb⟩
theorem Join_at (xs : List (List UInt8)) (l : List UInt8) (e0 : Nat) (cs : Array Value) (t : TypeId) (n c : Nat) (w : World) (hc : cs.toList = strs xs) (hn : n = xs.length) (hnc : n ≤ c) (hl : xs.length ≤ 1000 ∧ ∀ x ∈ xs, x.length ≤ 1000000) (hj : (joinL xs).length ≤ 1000000) (h : joinT xs = (l, e0)) :
    Calls Tryd.prog 22 #[.slice (some ⟨w.heap.size, 0, none⟩) n c] (w.alloc (.cells cs t)) fun e w' => e = .returned (.tuple #[.string ⟨l.toArray⟩, .int .i64 e0]) ∧ Below w.heap.size w w' := by
  subst hn
  have := TJoin_any _ xs.length c xs _ (reads_new w t xs cs hc) (by omega) hnc hl.2 hj
  rw [h] at this
  exact this.mono fun e w' ⟨he, hb⟩ => ⟨he, ((Below.refl _ _).alloc (Nat.le_refl _) _).trans (hb.mono (by simp))⟩
theorem Join_nil_at (w : World) : Calls Tryd.prog 22 #[.slice none 0 0] w fun e w' => e = .returned (.tuple #[.string ⟨#[]⟩, .int .i64 0]) ∧ Below w.heap.size w w' :=
  TJoin_any none 0 0 [] w Reads.none_ (by omega) (by omega) (by simp) (by decide)
theorem Cut_at (a b : List UInt8) (e0 : Nat) (s : ByteArray) (w : World) (hs : s.size ≤ 1000000) (h : cutT s.data.toList = (a, b, e0)) :
    Calls Tryd.prog 32 #[.string s] w fun e w' => e = .returned (.tuple #[.string ⟨a.toArray⟩, .string ⟨b.toArray⟩, .int .i64 e0]) ∧ Below w.heap.size w w' := by
  have := TCut_any s w hs
  rw [h] at this
  exact this
theorem none_at (s : ByteArray) (w : World) (hs : s.size ≤ 1000000) (h : colT s.data.toList = ([], [], 3)) :
    Calls Tryd.prog 34 #[.string s] w fun e w' => e = .returned (.bool true) ∧ Below w.heap.size w w' := by
  have cC := fun w => TColon_any s w hs
  rw [h] at cC
  simp only at cC
  have CC := Lib.hid cC
  clear cC h
  go_enter Tryd.func34, Tryd.ntmps34
  go_wp2_with fail
  (with_reducible refine (CC.out _).mono ?_); rintro e w1 ⟨rfl, hb1⟩
  have e0 : (bs [] : ByteArray) = ⟨#[]⟩ := rfl
  go_wp2_with fail
  go_ret
  exact ⟨rfl, hb1⟩

set_option maxRecDepth 100000 in
set_option maxHeartbeats 16000000 in
theorem TokenKnown_true (w : World) : Calls Tryd.prog 4 #[] w fun e w' => e = .returned (.bool true) ∧ Below w.heap.size w w' := by
  go_enter Tryd.func4, Tryd.ntmps4
  go_wp2_with fail
  (with_reducible refine (Is_at false _ _ (by decide) (by decide +kernel)).mono ?_); rintro e x1 ⟨rfl, hb1⟩
  have hc1 := hb1
  clear hb1
  go_wp2_with fail
  (with_reducible refine (Value_at false _ _ (by decide) (by decide +kernel)).mono ?_); rintro e x2 ⟨rfl, hb2⟩
  have hc2 := hc1.trans (hb2.mono hc1.size)
  clear hb2 hc1
  go_wp2_with fail
  (with_reducible refine (Value_at true _ _ (by decide) (by decide +kernel)).mono ?_); rintro e x3 ⟨rfl, hb3⟩
  have hc3 := hc2.trans (hb3.mono hc2.size)
  clear hb3 hc2
  go_wp2_with fail
  (with_reducible refine (lists_at true [[97]] _ _ _ _ _ _ (by decide) (by with_unfolding_all rfl) (by with_unfolding_all rfl) (by decide) (by decide +kernel)).mono ?_); rintro e x4 ⟨rfl, hb4⟩
  have hc4 := hc3.trans (hb4.mono hc3.size)
  clear hb4 hc3
  go_wp2_with fail
  (with_reducible refine (lists_nil_at true _ _ (by decide) (by decide +kernel)).mono ?_); rintro e x5 ⟨rfl, hb5⟩
  have hc5 := hc4.trans (hb5.mono hc4.size)
  clear hb5 hc4
  go_wp2_with fail
  (with_reducible refine (Trim_at [97] _ _ (by decide) (by decide +kernel)).mono ?_); rintro e x6 ⟨rfl, hb6⟩
  have hc6 := hc5.trans (hb6.mono hc5.size)
  clear hb6 hc5
  go_wp2_with fail
  (with_reducible refine (Same_at true _ _ _ (by decide) (by decide) (by decide +kernel)).mono ?_); rintro e x7 ⟨rfl, hb7⟩
  have hc7 := hc6.trans (hb7.mono hc6.size)
  clear hb7 hc6
  go_wp2_with fail
  (with_reducible refine (Same_at false _ _ _ (by decide) (by decide) (by decide +kernel)).mono ?_); rintro e x8 ⟨rfl, hb8⟩
  have hc8 := hc7.trans (hb8.mono hc7.size)
  clear hb8 hc7
  go_wp2_with fail
  (with_reducible refine (List_at [] 3 _ _ (by decide) (by decide +kernel)).mono ?_); rintro e x9 ⟨A, cap, rfl, hb9⟩
  have hc9 := hc8.trans (hb9.mono hc8.size)
  clear hb9 hc8
  go_wp2_with fail
  (with_reducible refine (List_at [] 3 _ _ (by decide) (by decide +kernel)).mono ?_); rintro e x10 ⟨A, cap, rfl, hb10⟩
  have hc10 := hc9.trans (hb10.mono hc9.size)
  clear hb10 hc9
  go_wp2_with fail
  (with_reducible refine (Holds_at false 0 _ _ _ (by decide) (by decide) (by decide +kernel)).mono ?_); rintro e x11 ⟨rfl, hb11⟩
  have hc11 := hc10.trans (hb11.mono hc10.size)
  clear hb11 hc10
  go_wp2_with fail
  (with_reducible refine (Holds_at false 3 _ _ _ (by decide) (by decide) (by decide +kernel)).mono ?_); rintro e x12 ⟨rfl, hb12⟩
  have hc12 := hc11.trans (hb12.mono hc11.size)
  clear hb12 hc11
  go_wp2_with fail
  (with_reducible refine (Join_at [[97], [98]] [97, 44, 32, 98] 0 _ _ _ _ _ (by with_unfolding_all rfl) (by with_unfolding_all rfl) (by decide) (by decide) (by decide) (by decide +kernel)).mono ?_); rintro e x13 ⟨rfl, hb13⟩
  have hc13 := hc12.trans (hb13.mono hc12.size)
  clear hb13 hc12
  go_wp2_with fail
  (with_reducible refine (Join_nil_at _).mono ?_); rintro e x14 ⟨rfl, hb14⟩
  have hc14 := hc13.trans (hb14.mono hc13.size)
  clear hb14 hc13
  go_wp2_with fail
  (with_reducible refine (Join_at [[97], [32]] [] 3 _ _ _ _ _ (by with_unfolding_all rfl) (by with_unfolding_all rfl) (by decide) (by decide) (by decide) (by decide +kernel)).mono ?_); rintro e x15 ⟨rfl, hb15⟩
  have hc15 := hc14.trans (hb15.mono hc14.size)
  clear hb15 hc14
  go_wp2_with fail
  (with_reducible refine (Cut_at [71, 69, 84] [32, 47, 120] 0 _ _ (by decide) (by decide +kernel)).mono ?_); rintro e x16 ⟨rfl, hb16⟩
  have hc16 := hc15.trans (hb16.mono hc15.size)
  clear hb16 hc15
  go_wp2_with fail
  (with_reducible refine (Cut_at [] [] 6 _ _ (by decide) (by decide +kernel)).mono ?_); rintro e x17 ⟨rfl, hb17⟩
  have hc17 := hc16.trans (hb17.mono hc16.size)
  clear hb17 hc16
  go_wp2_with fail
  (with_reducible refine (Cut_at [97, 98, 99] [] 0 _ _ (by decide) (by decide +kernel)).mono ?_); rintro e x18 ⟨rfl, hb18⟩
  have hc18 := hc17.trans (hb18.mono hc17.size)
  clear hb18 hc17
  go_wp2_with fail
  (with_reducible refine (awake05 _).mono ?_); rintro e x19 ⟨rfl, hb19⟩
  have hc19 := hc18.trans (hb19.mono hc18.size)
  clear hb19 hc18
  go_wp2_with fail
  (with_reducible refine (none_at _ _ (by decide) (by decide +kernel)).mono ?_); rintro e x20 ⟨rfl, hb20⟩
  have hc20 := hc19.trans (hb20.mono hc19.size)
  clear hb20 hc19
  go_wp2_with fail
  (with_reducible refine (none_at _ _ (by decide) (by decide +kernel)).mono ?_); rintro e x21 ⟨rfl, hb21⟩
  have hc21 := hc20.trans (hb21.mono hc20.size)
  clear hb21 hc20
  go_wp2_with fail
  (with_reducible refine (colon_any _ _ _ _ (by decide) [97] [] 0 (by decide +kernel) true true true (by decide) (by decide +kernel) (by decide +kernel)).mono ?_); rintro e x22 ⟨rfl, hb22⟩
  have hc22 := hc21.trans (hb22.mono hc21.size)
  clear hb22 hc21
  go_wp2_with fail
  (with_reducible refine (none_at _ _ (by decide) (by decide +kernel)).mono ?_); rintro e x23 ⟨rfl, hb23⟩
  have hc23 := hc22.trans (hb23.mono hc22.size)
  clear hb23 hc22
  go_wp2_with fail
  go_ret
  exact ⟨rfl, hc23⟩
end Go.Proofs.YtepemdmjbfoiaaaDoor
