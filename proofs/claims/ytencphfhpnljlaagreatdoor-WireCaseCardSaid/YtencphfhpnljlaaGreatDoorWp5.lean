/-
  wire: bare; a text without its CR; one byte more of a text.
-/
import Derived.Test.YtencphfhpnljlaaGreatDoorWp4
import Derived.Test.YtencphfhpnljlaaGreatDoorRq7
namespace Go.Proofs.YtencphfhpnljlaaGreatDoor
open Go.RowKit

theorem suf_last (s : List UInt8) : Lib.hasSuffix s [13] = decide (s.getLast? = some 13) := by
  unfold Lib.hasSuffix List.isSuffixOf
  rw [List.getLast?_eq_head?_reverse]
  cases s.reverse with
  | nil => rfl
  | cons x t =>
    by_cases h : x = 13
    · subst h; simp [List.isPrefixOf]
    · have : ¬ (13 : UInt8) = x := fun e => h e.symm
      simp [List.isPrefixOf, h, this]
theorem trim_bare (s : List UInt8) : Lib.trimSuffix s [13] = bareS s := by
  unfold Lib.trimSuffix bareS
  rw [suf_last]
  by_cases h : s.getLast? = some 13
  · rw [if_pos h, if_pos (by simpa using h), List.dropLast_eq_take]; rfl
  · rw [if_neg h, if_neg (by simpa using h)]
theorem bare_len (s : List UInt8) : (bareS s).length ≤ s.length := by unfold bareS; split <;> simp
theorem pBare (s : List UInt8) (w : World) (hs : s.length ≤ 1000000) :
    Calls Tryz.prog 74 #[.string (bs s)] w fun e w' => e = .returned (.string (bs (bareS s))) ∧ w' = w := by
  have c := Tryz.strings_TrimSuffix (bs s) ⟨#[13]⟩ w (by rw [bs_size]; omega)
  rw [bs_list, show ((⟨#[13]⟩ : ByteArray).data.toList) = [13] from rfl, trim_bare] at c
  have C := Lib.hid c
  clear c
  go_enter Tryz.func74, Tryz.ntmps74
  go_wp2_with fail
  (with_reducible refine (C.out).mono ?_); rintro e w1 ⟨rfl, rfl⟩
  go_wp2_with fail
  go_ret
  exact ⟨rfl, rfl⟩
theorem pCutCR (s : List UInt8) (w : World) (hs : s.length ≤ 1000000) :
    Calls Tryz.prog 76 #[.string (bs s), .string ⟨#[13]⟩] w fun e w' => e = .returned (.tuple #[.string (bs (bareS s)), .bool (decide (s.getLast? = some 13))]) ∧ w' = w := by
  have c := Tryz.strings_CutSuffix (bs s) ⟨#[13]⟩ w (by rw [bs_size]; omega)
  rw [bs_list, show ((⟨#[13]⟩ : ByteArray).data.toList) = [13] from rfl, trim_bare, suf_last] at c
  exact c
theorem bare_cr {s : List UInt8} (h : s.getLast? = some 13) : bareS s = s.dropLast := if_pos h
theorem wp_text (p : WireP) (f o : Value) (T : List UInt8) : (wpV p f o).setIfInBounds 1 (.string (bs T)) = wpV { p with text := T } f o := by simp [wpV, wpA]
theorem ParW.text {w0 w : World} {g : Nat} {p : WireP} {evs : List EvP} {A O : Option Addr} {c oc : Nat} {X : List EvM} (h : ParW w0 w g p evs A c O oc X) (T : List UInt8) :
    ParW w0 (w.setCell ⟨g, 1, none⟩ (.string (bs T))) g { p with text := T } evs A c O oc X := by
  have b := h.blk.set_ 1 (.string (bs T))
  rw [wp_text] at b
  have hg := Lib.grownBy_setB (World.grownBy.refl w (some g)) 1 (.string (bs T))
  exact h.turn hg b (own_only h.flds h.blk (by decide) hg)
theorem byte_conv (W : World) (x : UInt8) : ∀ (q : World) (cap : Nat), q.cell? ⟨W.heap.size, 0, none⟩ = some (.int .u8 (x.toNat : Int)) → (convert 50 9 (.slice (some ⟨W.heap.size, 0, none⟩) 1 cap)).run Tryz.prog q = .ok (.string ⟨#[x]⟩) q := fun q cap hq => run_convert_bytes_back (P := Tryz.prog) q 50 9 5 ⟨W.heap.size, 0, none⟩ cap [x] Tryz.underlying50 Tryz.underlying5 Tryz.underlying9 (fun j hj => by
  have : j = 0 := by simpa using hj
  subst this
  exact hq)
theorem bs_one (l : List UInt8) (b : UInt8) : bs l ++ ⟨#[b]⟩ = bs (l ++ [b]) := by
  apply ba_ext
  rw [append_toList, bs_list, bs_list]
theorem pNothing (g : Nat) (b : Int) (W : World) : Calls Tryz.prog 51 #[.pointer (some ⟨g, 0, none⟩), .int .u8 b] W fun e w' => e = .returned (.tuple #[]) ∧ w' = W := by
  go_enter Tryz.func51, Tryz.ntmps51
  go_wp2_with fail
  go_end0
  exact ⟨rfl, rfl⟩
end Go.Proofs.YtencphfhpnljlaaGreatDoor
