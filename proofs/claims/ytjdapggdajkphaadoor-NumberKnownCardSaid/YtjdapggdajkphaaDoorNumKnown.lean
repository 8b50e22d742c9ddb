/-
  NumberKnown: the chapter's examples have the results given there. The walk of the statement's function.
-/
import Derived.Test.YtjdapggdajkphaaDoorNumS1
namespace Go.Proofs.YtjdapggdajkphaaDoor
open Go.RowKit

set_option maxHeartbeats 400000 in
/-- same: true where reading the list gives just this -/
theorem same_yes (s : ByteArray) (want e : Nat) (w : World) (hs : s.size ≤ 1000000) (ht : Tabs2 w) (h : sameR ((splitC 44 s.data.toList).map trimL) 2 99 = (want, e)) :
    Calls Tryd.prog 27 #[.string s, .int .u64 want, .int .i64 e] w fun r w' => r = .returned (.bool true) ∧ Below w.heap.size w w' := by
  have hc : Calls Tryd.prog 25 #[.string s, .int .i64 2, .int .u64 99] w fun r w' => r = .returned (.tuple #[.int .u64 want, .int .i64 e]) ∧ Below w.heap.size w w' := by
    have := Same_any s 2 99 w hs ht
    rw [h] at this
    exact this
  have HC := Lib.hid hc
  clear hc h
  go_enter Tryd.func27, Tryd.ntmps27
  go_wp2_with fail
  (with_reducible refine HC.out.mono ?_); rintro r w1 ⟨rfl, hb⟩
  go_wp2_with fail
  go_ret
  exact ⟨by simp, hb⟩

set_option maxRecDepth 100000 in
set_option maxHeartbeats 2000000 in
theorem NumberKnown_true (w : World) (htab : Tabs2 w) :
    Calls Tryd.prog 8 #[] w fun r w' => r = .returned (.bool true) ∧ Below w.heap.size w w' := by
  have c0 : ∀ w, Calls Tryd.prog 12 #[.string ⟨#[48, 49, 50]⟩, .int .i64 3, .int .u64 99, .int .u64 12, .int .i64 0] w fun r w' => r = .returned (.bool true) ∧ w = w' := fun w => dec_yes ⟨#[48, 49, 50]⟩ 3 99 12 0 w (by decide) (by decide)
  have c1 : ∀ w, Calls Tryd.prog 12 #[.string ⟨#[49, 48, 48]⟩, .int .i64 3, .int .u64 99, .int .u64 0, .int .i64 2] w fun r w' => r = .returned (.bool true) ∧ w = w' := fun w => dec_yes ⟨#[49, 48, 48]⟩ 3 99 0 2 w (by decide) (by decide)
  have c2 : ∀ w, Calls Tryd.prog 12 #[.string ⟨#[]⟩, .int .i64 3, .int .u64 99, .int .u64 0, .int .i64 3] w fun r w' => r = .returned (.bool true) ∧ w = w' := fun w => dec_yes ⟨#[]⟩ 3 99 0 3 w (by decide) (by decide)
  have c3 : ∀ w, Calls Tryd.prog 12 #[.string ⟨#[45, 49]⟩, .int .i64 3, .int .u64 99, .int .u64 0, .int .i64 3] w fun r w' => r = .returned (.bool true) ∧ w = w' := fun w => dec_yes ⟨#[45, 49]⟩ 3 99 0 3 w (by decide) (by decide)
  have c4 : ∀ w, Calls Tryd.prog 12 #[.string ⟨#[49, 32]⟩, .int .i64 3, .int .u64 99, .int .u64 0, .int .i64 3] w fun r w' => r = .returned (.bool true) ∧ w = w' := fun w => dec_yes ⟨#[49, 32]⟩ 3 99 0 3 w (by decide) (by decide)
  have c5 : ∀ w, Calls Tryd.prog 12 #[.string ⟨#[48, 120, 49]⟩, .int .i64 3, .int .u64 99, .int .u64 0, .int .i64 3] w fun r w' => r = .returned (.bool true) ∧ w = w' := fun w => dec_yes ⟨#[48, 120, 49]⟩ 3 99 0 3 w (by decide) (by decide)
  have c6 : ∀ w, Calls Tryd.prog 13 #[.string ⟨#[49, 48, 48]⟩, .int .i64 3, .int .u64 255, .int .u64 0, .int .i64 2] w fun r w' => r = .returned (.bool true) ∧ Below w.heap.size w w' := fun w => hex_yes ⟨#[49, 48, 48]⟩ 3 255 0 2 w (by decide) (by decide)
  have c7 : ∀ w, Calls Tryd.prog 13 #[.string ⟨#[103]⟩, .int .i64 1, .int .u64 9, .int .u64 0, .int .i64 3] w fun r w' => r = .returned (.bool true) ∧ Below w.heap.size w w' := fun w => hex_yes ⟨#[103]⟩ 1 9 0 3 w (by decide) (by decide)
  have c8 : ∀ w, Calls Tryd.prog 12 #[.string ⟨#[49, 56, 52, 52, 54, 55, 52, 52, 48, 55, 51, 55, 48, 57, 53, 53, 49, 54, 49, 53]⟩, .int .i64 20, .int .u64 18446744073709551615, .int .u64 18446744073709551615, .int .i64 0] w fun r w' => r = .returned (.bool true) ∧ w = w' := fun w => dec_yes ⟨#[49, 56, 52, 52, 54, 55, 52, 52, 48, 55, 51, 55, 48, 57, 53, 53, 49, 54, 49, 53]⟩ 20 18446744073709551615 18446744073709551615 0 w (by decide) (by decide)
  have c9 : ∀ w, Calls Tryd.prog 12 #[.string ⟨#[49, 56, 52, 52, 54, 55, 52, 52, 48, 55, 51, 55, 48, 57, 53, 53, 49, 54, 49, 54]⟩, .int .i64 20, .int .u64 18446744073709551615, .int .u64 0, .int .i64 2] w fun r w' => r = .returned (.bool true) ∧ w = w' := fun w => dec_yes ⟨#[49, 56, 52, 52, 54, 55, 52, 52, 48, 55, 51, 55, 48, 57, 53, 53, 49, 54, 49, 54]⟩ 20 18446744073709551615 0 2 w (by decide) (by decide)
  have c10 : ∀ w, Calls Tryd.prog 19 #[.string ⟨#[49, 50, 97]⟩, .bool false] w fun r w' => r = .returned (.int .i64 2) ∧ w = w' := fun w => Prefix_any ⟨#[49, 50, 97]⟩ false w (by decide)
  have c11 : ∀ w, Calls Tryd.prog 19 #[.string ⟨#[49, 50, 97]⟩, .bool true] w fun r w' => r = .returned (.int .i64 3) ∧ w = w' := fun w => Prefix_any ⟨#[49, 50, 97]⟩ true w (by decide)
  have c12 : ∀ w, Tabs2 w → Calls Tryd.prog 27 #[.string ⟨#[53, 44, 32, 48, 53, 32, 44, 53]⟩, .int .u64 5, .int .i64 0] w fun r w' => r = .returned (.bool true) ∧ Below w.heap.size w w' := fun w h => same_yes ⟨#[53, 44, 32, 48, 53, 32, 44, 53]⟩ 5 0 w (by decide) h (by decide)
  have c13 : ∀ w, Tabs2 w → Calls Tryd.prog 27 #[.string ⟨#[53, 44, 54]⟩, .int .u64 0, .int .i64 7] w fun r w' => r = .returned (.bool true) ∧ Below w.heap.size w w' := fun w h => same_yes ⟨#[53, 44, 54]⟩ 0 7 w (by decide) h (by decide)
  have c14 : ∀ w, Tabs2 w → Calls Tryd.prog 27 #[.string ⟨#[53, 44]⟩, .int .u64 0, .int .i64 3] w fun r w' => r = .returned (.bool true) ∧ Below w.heap.size w w' := fun w h => same_yes ⟨#[53, 44]⟩ 0 3 w (by decide) h (by decide)
  have c15 : ∀ w, Tabs2 w → Calls Tryd.prog 27 #[.string ⟨#[53, 59, 53]⟩, .int .u64 0, .int .i64 3] w fun r w' => r = .returned (.bool true) ∧ Below w.heap.size w w' := fun w h => same_yes ⟨#[53, 59, 53]⟩ 0 3 w (by decide) h (by decide)
  have C0 := Lib.hid c0
  have C1 := Lib.hid c1
  have C2 := Lib.hid c2
  have C3 := Lib.hid c3
  have C4 := Lib.hid c4
  have C5 := Lib.hid c5
  have C6 := Lib.hid c6
  have C7 := Lib.hid c7
  have C8 := Lib.hid c8
  have C9 := Lib.hid c9
  have C10 := Lib.hid c10
  have C11 := Lib.hid c11
  have C12 := Lib.hid c12
  have C13 := Lib.hid c13
  have C14 := Lib.hid c14
  have C15 := Lib.hid c15
  have AW := Lib.hid awake_true
  clear c0 c1 c2 c3 c4 c5 c6 c7 c8 c9 c10 c11 c12 c13 c14 c15
  have hb := Below.refl w.heap.size w
  go_enter Tryd.func8, Tryd.ntmps8
  go_wp2_with fail
  (with_reducible refine (C0.out _).mono ?_); rintro r w' ⟨rfl, rfl⟩
  go_wp2_with fail
  (with_reducible refine (C1.out _).mono ?_); rintro r w' ⟨rfl, rfl⟩
  go_wp2_with fail
  (with_reducible refine (C2.out _).mono ?_); rintro r w' ⟨rfl, rfl⟩
  go_wp2_with fail
  (with_reducible refine (C3.out _).mono ?_); rintro r w' ⟨rfl, rfl⟩
  go_wp2_with fail
  (with_reducible refine (C4.out _).mono ?_); rintro r w' ⟨rfl, rfl⟩
  go_wp2_with fail
  (with_reducible refine (C5.out _).mono ?_); rintro r w' ⟨rfl, rfl⟩
  go_wp2_with fail
  (with_reducible refine (C6.out _).mono ?_); rintro r w6 ⟨rfl, hb6⟩
  have hb := hb.trans (hb6.mono hb.size)
  go_wp2_with fail
  (with_reducible refine (C7.out _).mono ?_); rintro r w7 ⟨rfl, hb7⟩
  have hb := hb.trans (hb7.mono hb.size)
  go_wp2_with fail
  (with_reducible refine (C8.out _).mono ?_); rintro r w' ⟨rfl, rfl⟩
  go_wp2_with fail
  (with_reducible refine (C9.out _).mono ?_); rintro r w' ⟨rfl, rfl⟩
  go_wp2_with fail
  (with_reducible refine (C10.out _).mono ?_); rintro r w' ⟨rfl, rfl⟩
  go_wp2_with fail
  (with_reducible refine (C11.out _).mono ?_); rintro r w' ⟨rfl, rfl⟩
  go_wp2_with fail
  (with_reducible refine (C12.out _ (htab.below hb)).mono ?_); rintro r w12 ⟨rfl, hb12⟩
  have hb := hb.trans (hb12.mono hb.size)
  go_wp2_with fail
  (with_reducible refine (C13.out _ (htab.below hb)).mono ?_); rintro r w13 ⟨rfl, hb13⟩
  have hb := hb.trans (hb13.mono hb.size)
  go_wp2_with fail
  (with_reducible refine (C14.out _ (htab.below hb)).mono ?_); rintro r w14 ⟨rfl, hb14⟩
  have hb := hb.trans (hb14.mono hb.size)
  go_wp2_with fail
  (with_reducible refine (C15.out _ (htab.below hb)).mono ?_); rintro r w15 ⟨rfl, hb15⟩
  have hb := hb.trans (hb15.mono hb.size)
  go_wp2_with fail
  refine (AW.out _ (htab.below hb).tabs).mono ?_; rintro e w5 ⟨rfl, hb5⟩
  go_wp2_with fail
  go_ret
  exact ⟨rfl, hb.trans (hb5.mono hb.size)⟩
end Go.Proofs.YtjdapggdajkphaaDoor
