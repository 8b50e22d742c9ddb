/-
  strings.ContainsAny of CR and LF in a line of any bytes that has neither. strings.IndexAny and ContainsAny of CR and LF in a line of any bytes that has neither. chunked.Over; what feeding in parts gives, in plain words.
-/
import Derived.Test.YtkbihipgnlglbaaGreatDoorCk2
import Derived.Laws.RangeAny
import Derived.Laws.Runes
import Derived.Lib.OthersKept
import Derived.Shelf.Strings.Runes
import Derived.LoopTactic
import Derived.BigQuiet
import Derived.WalkMore
import Derived.Deep.RegionHeld3
import Derived.Deep.RegionWith
import Derived.Lib.SpaceU
import Derived.Test.YtkbihipgnlglbaaGreatDoorLa10
namespace Go.Proofs.YtkbihipgnlglbaaGreatDoor

section
open Go.RowKit

theorem validRune_any (r : Int) (w : World) (h0 : 0 ≤ r) : Calls Tryz.prog 90 #[.int .i32 r] w fun e w' => e = .returned (.bool (validRune r)) ∧ w' = w := by
  by_cases h1 : r < 55296
  · rw [show validRune r = true from decide_eq_true (.inl ⟨h0, h1⟩)]
    have d0 : decide ((0 : Int) ≤ r) = true := by simpa using h0
    have d1 : decide (r < 55296) = true := by simpa using h1
    go_enter Tryz.func90, Tryz.ntmps90
    go_wp2_with fail
    go_ret
    exact ⟨rfl, rfl⟩
  · have d0 : decide ((0 : Int) ≤ r) = true := by simpa using h0
    have d1 : decide (r < 55296) = false := by simpa using h1
    by_cases h2 : 57343 < r
    · have d2 : decide ((57343 : Int) < r) = true := by simpa using h2
      by_cases h3 : r ≤ 1114111
      · rw [show validRune r = true from decide_eq_true (.inr ⟨h2, h3⟩)]
        have d3 : decide (r ≤ 1114111) = true := by simpa using h3
        go_enter Tryz.func90, Tryz.ntmps90
        go_wp2_with fail
        go_ret
        exact ⟨rfl, rfl⟩
      · rw [show validRune r = false from decide_eq_false (by omega)]
        have d3 : decide (r ≤ 1114111) = false := by simpa using h3
        go_enter Tryz.func90, Tryz.ntmps90
        go_wp2_with fail
        go_ret
        exact ⟨rfl, rfl⟩
    · rw [show validRune r = false from decide_eq_false (by omega)]
      have d2 : decide ((57343 : Int) < r) = false := by simpa using h2
      go_enter Tryz.func90, Tryz.ntmps90
      go_wp2_with fail
      go_ret
      exact ⟨rfl, rfl⟩
theorem indexByteNone (w : World) (b : UInt8) : Calls Tryz.prog 89 #[.string ByteArray.empty, .int .u8 (b.toNat : Int)] w fun e w' => e = .returned (.int .i64 (-1)) ∧ w' = w := by
  have h := Any.strings_IndexByte { Tryz.lays150 with } ByteArray.empty (b.toNat : Int) w
  exact h
set_option maxRecDepth 100000 in
set_option maxHeartbeats 8000000 in
theorem ixRune (r : Int) (h0 : 128 ≤ r) (h1 : r ≤ 2147483647) (w : World) : Calls Tryz.prog 75 #[.string ⟨#[13, 10]⟩, .int .i32 r] w fun e w' => e = .returned (.int .i64 (-1)) ∧ Below w.heap.size w w' := by
  have d0 : decide ((0 : Int) ≤ r) = true := by simp; omega
  have d1 : decide (r < 128) = false := by simp; omega
  by_cases hE : r = 65533
  · subst hE
    go_enter Tryz.func75, Tryz.ntmps75
    go_wp2_with fail
    go_loopw [5, 6] (fun _ _ wx => ∃ i : Nat, i ≤ 2 ∧ wx.heap[w.heap.size]? = some (.stringIter ⟨#[13, 10]⟩ i) ∧ Below w.heap.size w wx) (fun _ _ wx => 2 - wx.iterPos w.heap.size)
    case atStart => exact ⟨0, by omega, World.iter_heap w _ 0, (Below.refl _ w).alloc (Nat.le_refl _) _⟩
    case round =>
      obtain ⟨i, hi, hit, hbw⟩ := hrel
      rename World => wx
      have hsz : w.heap.size < wx.heap.size := (Array.getElem?_eq_some_iff.1 hit).1
      have hpos : wx.iterPos w.heap.size = i := by simp [World.iterPos, hit]
      have hc : i = 0 ∨ i = 1 ∨ i = 2 := by omega
      have e13 : ((13 : Int) == 65533) = false := rfl
      have e10 : ((10 : Int) == 65533) = false := rfl
      rcases hc with rfl | rfl | rfl
      · have hnx : ∀ ty, (Instr.next (.pointer (some ⟨w.heap.size, 0, none⟩)) true ty).run Tryz.prog wx = .ok (.tuple #[.bool true, .int .i64 0, .int .i32 13]) (wx.iterAt w.heap.size ⟨#[13, 10]⟩ 1) := fun ty => Lib.run_next_ascii_at wx w.heap.size ⟨#[13, 10]⟩ 0 ty hit (by decide) (by decide)
        have hit2 := Lib.iterAt_heap wx w.heap.size ⟨#[13, 10]⟩ 0 1 hit
        have hbw2 := Lib.below_iterAt hbw (k := w.heap.size) (Nat.le_refl _) ⟨#[13, 10]⟩ 1
        have hp2 : (wx.iterAt w.heap.size ⟨#[13, 10]⟩ 1).iterPos w.heap.size = 1 := by simp [World.iterPos, hit2]
        obtain ⟨W, hW⟩ : ∃ W, wx.iterAt w.heap.size ⟨#[13, 10]⟩ 1 = W := ⟨_, rfl⟩
        rw [hW] at hnx hit2 hbw2 hp2
        have HI := Lib.hid (And.intro hit2 (And.intro hbw2 (And.intro hp2 hpos)))
        clear hit2 hbw2 hit hbw hW hp2 hpos
        go_wp2_with fail
        obtain ⟨i1, i2, i3, i4⟩ := HI.out
        exact ⟨⟨1, by omega, i1, i2⟩, by rw [i3, i4]; omega⟩
      · have hnx : ∀ ty, (Instr.next (.pointer (some ⟨w.heap.size, 0, none⟩)) true ty).run Tryz.prog wx = .ok (.tuple #[.bool true, .int .i64 1, .int .i32 10]) (wx.iterAt w.heap.size ⟨#[13, 10]⟩ 2) := fun ty => Lib.run_next_ascii_at wx w.heap.size ⟨#[13, 10]⟩ 1 ty hit (by decide) (by decide)
        have hit2 := Lib.iterAt_heap wx w.heap.size ⟨#[13, 10]⟩ 1 2 hit
        have hbw2 := Lib.below_iterAt hbw (k := w.heap.size) (Nat.le_refl _) ⟨#[13, 10]⟩ 2
        have hp2 : (wx.iterAt w.heap.size ⟨#[13, 10]⟩ 2).iterPos w.heap.size = 2 := by simp [World.iterPos, hit2]
        obtain ⟨W, hW⟩ : ∃ W, wx.iterAt w.heap.size ⟨#[13, 10]⟩ 2 = W := ⟨_, rfl⟩
        rw [hW] at hnx hit2 hbw2 hp2
        have HI := Lib.hid (And.intro hit2 (And.intro hbw2 (And.intro hp2 hpos)))
        clear hit2 hbw2 hit hbw hW hp2 hpos
        go_wp2_with fail
        obtain ⟨i1, i2, i3, i4⟩ := HI.out
        exact ⟨⟨2, by omega, i1, i2⟩, by rw [i3, i4]; omega⟩
      · have hnx : ∀ ty, (Instr.next (.pointer (some ⟨w.heap.size, 0, none⟩)) true ty).run Tryz.prog wx = .ok (.tuple #[.bool false]) wx := fun ty => Lib.run_next_end_at wx w.heap.size ⟨#[13, 10]⟩ 2 ty hit (by decide)
        have HI := Lib.hid hbw
        clear hit hbw hpos
        go_wp2_with fail
        go_ret
        exact ⟨rfl, HI.out⟩
  · have e1 : (r == 65533) = false := by simpa using hE
    have CV := Lib.hid (fun w => validRune_any r w (by omega))
    cases hv : validRune r with
    | false =>
      rw [hv] at CV
      go_enter Tryz.func75, Tryz.ntmps75
      go_wp2_with fail
      (with_reducible refine (CV.out _).mono ?_); rintro e w' ⟨rfl, rfl⟩
      go_wp2_with fail
      go_ret
      exact ⟨rfl, Below.refl _ _⟩
    | true =>
      rw [hv] at CV
      have hf := encode_facts r (by rw [validRune_eq]; exact hv) h0
      obtain ⟨R, hR⟩ : ∃ R, Utf8.encode r = R := ⟨_, rfl⟩
      rw [hR] at hf
      obtain ⟨f1, f2, f3⟩ := hf
      have f3 := f3 (by omega)
      go_enter Tryz.func75, Tryz.ntmps75
      go_wp2_with fail
      (with_reducible refine (CV.out _).mono ?_); rintro e w' ⟨rfl, rfl⟩
      go_wp2_with fail
      have w1' : IntKind.i64.wrap ((R.size : Int) - 1) = ((R.size - 1 : Nat) : Int) := by rw [IntKind.wrap_i64]; omega
      have w2' : (R.size : Int) - 1 = ((R.size - 1 : Nat) : Int) := by omega
      go_step3
      go_wp2_with fail
      rename World => w0
      go_loopw [9] (fun i wx => i = .int .i64 ((R.size - 1 : Nat) : Int) ∧ wx = w0) (fun _ _ => 0)
      case atStart => exact ⟨rfl, rfl⟩
      case round =>
        obtain ⟨rfl, rfl⟩ := hrel
        rename World => w0
        by_cases h2 : R.size = 2
        · have e7 : R.size - 1 = 1 := by omega
          have hlt : 1 < R.size := by omega
          obtain ⟨y, hy⟩ : ∃ y, R[1] = y := ⟨_, rfl⟩
          have hy128 : 128 ≤ y.toNat := by
            have f4 : R[R.size - 1]'(by omega) = y := by rw [← hy]; congr 1
            rw [← f4]; exact f3
          have h10 : ((⟨#[13, 10]⟩ : ByteArray)[1]'(by decide)).toNat = 10 := rfl
          have hne : ((10 : Int) != (y.toNat : Int)) = true := by rw [bne_iff_ne]; omega
          have hne2 : ((((⟨#[13, 10]⟩ : ByteArray)[1]'(by decide)).toNat : Int) != (y.toNat : Int)) = true := by rw [h10]; exact hne
          have hex : (⟨#[13, 10]⟩ : ByteArray).extract 2 2 = ⟨#[]⟩ := rfl
          have CI := Lib.hid (fun w => indexByteNone w y)
          rw [e7, show ((1 : Nat) : Int) = 1 from rfl]
          clear f1 f2 f3 w1' w2' hR e7
          go_wp2_with fail
          go_step3
          go_wp2_with fail
          go_quiet (fail)
          go_wp2_with fail
          go_region_with (first
            | (go_at_call 89; (with_reducible refine (CI.out _).mono ?_); rintro e w' ⟨rfl, hww⟩))
          all_goals go_wp2_with fail
          all_goals rw [Exit.noGoto_ret]
          all_goals go_wp2_with fail
          all_goals rw [Exit.noGoto_ret]
          all_goals go_ret
          all_goals exact ⟨rfl, below_drewN (Below.refl _ _) _⟩
        · have e7 : decide (((R.size - 1 : Nat) : Int) < 2) = false := by simp; omega
          go_wp2_with fail
          rw [Exit.noGoto_ret]
          go_ret
          exact ⟨rfl, Below.refl _ _⟩
theorem ixAscii (r : Nat) (h1 : r < 128) (h13 : r ≠ 13) (h10 : r ≠ 10) (w : World) : Calls Tryz.prog 75 #[.string ⟨#[13, 10]⟩, .int .i32 (r : Int)] w fun e w' => e = .returned (.int .i64 (-1)) ∧ Below w.heap.size w w' := by
  have h := Any.strings_IndexRune_ascii { Tryz.lays150 with } ⟨#[13, 10]⟩ (r : Int) w (by omega) (by omega)
  refine h.mono fun e w' ⟨he, hw⟩ => ⟨?_, by rw [hw]; exact Below.refl _ _⟩
  rw [he]
  have e : Lib.indexByte [13, 10] ((r : Int)).toNat.toUInt8 = -1 := by
    have a1 : ¬ (13 : UInt8) = ((r : Int)).toNat.toUInt8 := fun e => by
      have := congrArg UInt8.toNat e
      simp at this; omega
    have a2 : ¬ (10 : UInt8) = ((r : Int)).toNat.toUInt8 := fun e => by
      have := congrArg UInt8.toNat e
      simp at this; omega
    generalize ((r : Int)).toNat.toUInt8 = x at a1 a2
    simp [Lib.indexByte, a1, a2]
  exact congrArg (fun z => Ending.returned (.int .i64 z)) e
/-- at every place of a line without CR and LF the rune there is found in neither -/
theorem ixAt (s : ByteArray) (hc : ∀ b ∈ s.data.toList, b ≠ 13 ∧ b ≠ 10) (pos : Nat) (hp : pos < s.size) (w : World) : Calls Tryz.prog 75 #[.string ⟨#[13, 10]⟩, .int .i32 ((Utf8.decode s pos).1 : Int)] w fun e w' => e = .returned (.int .i64 (-1)) ∧ Below w.heap.size w w' := by
  have hm := hc (s[pos]'hp) (by exact Array.getElem_mem_toList (xs := s.data) hp)
  by_cases h : (s[pos]'hp).toNat < 128
  · rw [decode_ascii s pos hp h]
    refine ixAscii _ h (fun e => hm.1 ?_) (fun e => hm.2 ?_) w
    · exact UInt8.toNat_inj.1 e
    · exact UInt8.toNat_inj.1 e
  · exact ixRune _ (by have := (decode_high s pos hp (by omega)).1; omega) (by have := decode_le s pos; omega) w
end

section
open Go.RowKit

set_option maxRecDepth 100000 in
set_option maxHeartbeats 8000000 in
theorem ixAnyShort (s : ByteArray) (h8 : s.size ≤ 8) (hc : ∀ b ∈ s.data.toList, b ≠ 13 ∧ b ≠ 10) (w : World) : Calls Tryz.prog 63 #[.string s, .string ⟨#[13, 10]⟩] w fun e w' => e = .returned (.int .i64 (-1)) ∧ Below w.heap.size w w' := by
  have h8z : decide ((8 : Int) < (s.size : Int)) = false := decide_eq_false (by omega)
  have CS : Hid (∀ w, Calls Tryz.prog 76 #[.int .i64 (s.size : Int)] w fun e w' => e = .returned (.bool (decide ((8 : Int) < (s.size : Int)))) ∧ w' = w) := Lib.hid (fun w => Any.strings_shouldUseASCIISet { Tryz.lays150 with } (s.size : Int) w)
  have CI := Lib.hid (fun pos hp w => ixAt s hc pos hp w)
  rw [h8z] at CS
  have hlt : ((-1 : Int) < 0) := by omega
  go_enter Tryz.func63, Tryz.ntmps63
  go_wp2_with fail
  (with_reducible refine (CS.out _).mono ?_); rintro e w' ⟨rfl, rfl⟩
  rename World => w
  have CI2 := CI
  clear CI
  go_wp2_with fail
  go_loopw [9, 10] (fun _ _ wx => ∃ i : Nat, wx.heap[w.heap.size]? = some (.stringIter s i) ∧ Below w.heap.size w wx) (fun _ _ wx => s.size - wx.iterPos w.heap.size)
  case atStart => exact ⟨0, World.iter_heap w _ 0, (Below.refl _ w).alloc (Nat.le_refl _) _⟩
  case round =>
    obtain ⟨i, hit, hbw⟩ := hrel
    rename World => wx
    have hsz : w.heap.size < wx.heap.size := (Array.getElem?_eq_some_iff.1 hit).1
    have hpos : wx.iterPos w.heap.size = i := by simp [World.iterPos, hit]
    by_cases hp : i < s.size
    · have hnx : ∀ ty, (Instr.next (.pointer (some ⟨w.heap.size, 0, none⟩)) true ty).run Tryz.prog wx = _ := fun ty => Lib.run_next_any_at wx w.heap.size s i ty hit hp
      have CR := Lib.hid (fun w => CI2.out i hp w)
      have hwd : 1 ≤ (Utf8.decode s i).2 := by
        by_cases h : (s[i]'hp).toNat < 128
        · rw [decode_ascii s i hp h]; exact Nat.le_refl _
        · exact (decode_high s i hp (by omega)).2
      obtain ⟨R, hR⟩ : ∃ R, (Utf8.decode s i).1 = R := ⟨_, rfl⟩
      obtain ⟨K, hK⟩ : ∃ K, (Utf8.decode s i).2 = K := ⟨_, rfl⟩
      rw [hR, hK] at hnx
      rw [hR] at CR
      rw [hK] at hwd
      have hit2 := Lib.iterAt_heap wx w.heap.size s i (i + K) hit
      have hbw2 := Lib.below_iterAt hbw (k := w.heap.size) (Nat.le_refl _) s (i + K)
      obtain ⟨W, hW⟩ : ∃ W, wx.iterAt w.heap.size s (i + K) = W := ⟨_, rfl⟩
      rw [hW] at hnx hit2 hbw2
      have hWs : w.heap.size < W.heap.size := (Array.getElem?_eq_some_iff.1 hit2).1
      have HI := Lib.hid (And.intro hit2 (And.intro hbw2 (And.intro hWs (And.intro hpos hwd))))
      clear hit2 hbw2 hit hbw hW hpos hWs hR hK hwd hsz
      go_wp2_with fail
      (with_reducible refine (CR.out _).mono ?_); rintro e w5 ⟨rfl, g5⟩
      have HG := Lib.hid g5
      clear g5
      go_wp2_with fail
      obtain ⟨i1, i2, i3, i4, i5⟩ := HI.out
      have i1' := (HG.out.block w.heap.size i3).trans i1
      have hp2 : w5.iterPos w.heap.size = i + K := by simp [World.iterPos, i1']
      exact ⟨⟨i + K, i1', i2.trans (HG.out.mono (by omega))⟩, by rw [hp2, i4]; omega⟩
    · have hnx : ∀ ty, (Instr.next (.pointer (some ⟨w.heap.size, 0, none⟩)) true ty).run Tryz.prog wx = _ := fun ty => Lib.run_next_end_at wx w.heap.size s i ty hit hp
      have HI := Lib.hid hbw
      clear hit hbw hpos
      go_wp2_with fail
      go_ret
      exact ⟨rfl, HI.out⟩
theorem hv116 : ∀ w, (zeroValue 104).run Tryz.prog w = .ok (.agg (Array.replicate 256 (.bool false))) w := by
  have h : (Tryz.prog.info? 104).map (fun i => (i.zero, i.size)) = some (some (.agg (Array.replicate 256 (.bool false))), 256) := by kernel_rfl
  exact (zero_of_info h).1
theorem cleanCA_any (l : List UInt8) (hl : l.length ≤ 1000) (hc : ∀ b ∈ l, b ≠ 13 ∧ b ≠ 10) : CleanCA (bs l) := by
  intro w1
  have CI : Hid (∀ w, Calls Tryz.prog 63 #[.string (bs l), .string ⟨#[13, 10]⟩] w fun e w' => e = .returned (.int .i64 (-1)) ∧ Below w.heap.size w w') := by
    intro w
    by_cases h8 : (bs l).size ≤ 8
    · exact ixAnyShort (bs l) h8 hc w
    · have h := Tryz.strings_IndexAny_long hv116 (bs l) ⟨#[13, 10]⟩ w (by show 2 ≤ 2; omega) (by omega) (by rw [bs_size]; omega) (by show 2 < _; omega) (fun j b hj => by
        have hj' : ([13, 10] : List UInt8)[j]? = some b := hj
        have := List.mem_of_getElem? hj'
        simp only [List.mem_cons, List.not_mem_nil, or_false] at this
        rcases this with rfl | rfl <;> decide)
      refine h.mono fun e w' ⟨he, hw⟩ => ⟨?_, by rw [hw]; exact ((Below.refl _ _).alloc (Nat.le_refl _) _).alloc (by simp) _⟩
      rw [he]
      exact congrArg (fun z => Ending.returned (.int .i64 z)) (indexAny_clean l hc)
  go_enter Tryz.func44, Tryz.ntmps44
  go_wp2_with fail
  (with_reducible refine (CI.out _).mono ?_); rintro e w' ⟨rfl, g⟩
  go_wp2_with fail
  go_ret
  exact ⟨rfl, g⟩
end

section
open Go.RowKit

theorem cleanCA_ok {c : Ck} (h : OkC c) : CleanCA (bs c.line) := cleanCA_any c.line (by have := h.len; omega) h.clean
set_option maxRecDepth 100000 in
set_option maxHeartbeats 4000000 in
theorem pIs (k : Int) (w : World) (A : Option Addr) (hr : Reads w w.heap.size 1 A 2 ([(7 : Int), 8].map (Value.int .i64))) : Calls Tryz.prog 36 #[.int .i64 k, .slice A 2 2] w fun e w' => e = .returned (.bool (k == 7 || k == 8)) ∧ w' = w := by
  obtain ⟨b, o, rfl, _, c0⟩ := hr.zint 0 (by decide)
  obtain ⟨b', o', hA, _, c1⟩ := hr.zint 1 (by decide)
  injection hA with hA
  injection hA with h1 h2
  subst h1 h2
  have c0 : w.cell? ⟨b, o, none⟩ = some (.int .i64 7) := c0
  have c1 : w.cell? ⟨b, o + 1, none⟩ = some (.int .i64 8) := c1
  go_enter Tryz.func36, Tryz.ntmps36
  go_wp2_with fail
  go_loopw [9] (fun i wr => wr = w ∧ (i = .int .i64 0 ∨ (i = .int .i64 1 ∧ ¬ k = 7) ∨ (i = .int .i64 2 ∧ ¬ k = 7 ∧ ¬ k = 8))) (fun i _ => 2 - (intOf i).toNat)
  case atStart => exact ⟨rfl, .inl rfl⟩
  case round =>
    obtain ⟨rfl, hc⟩ := hrel
    rcases hc with rfl | ⟨rfl, h7⟩ | ⟨rfl, h7, h8⟩
    · by_cases h7 : k = 7
      · subst h7
        go_wp2_with fail
        go_ret
        exact ⟨rfl, rfl⟩
      · have e7 : ((7 : Int) == k) = false := by rw [beq_eq_false_iff_ne]; exact fun e => h7 e.symm
        go_wp2_with fail
        go_roundw
        case rel => exact ⟨trivial, .inr (.inl ⟨rfl, h7⟩)⟩
        case measure => simp [intOf]
    · by_cases h8 : k = 8
      · subst h8
        go_wp2_with fail
        go_ret
        exact ⟨rfl, rfl⟩
      · have e8 : ((8 : Int) == k) = false := by rw [beq_eq_false_iff_ne]; exact fun e => h8 e.symm
        go_wp2_with fail
        go_roundw
        case rel => exact ⟨trivial, .inr (.inr ⟨rfl, h7, h8⟩)⟩
        case measure => simp [intOf]
    · go_wp2_with fail
      go_ret
      refine ⟨?_, rfl⟩
      have e7 : (k == 7) = false := by simpa using h7
      have e8 : (k == 8) = false := by simpa using h8
      rw [e7, e8]; rfl
set_option maxRecDepth 100000 in
set_option maxHeartbeats 8000000 in
theorem pOver {c : Ck} (hc : OkC c) (w : World) : Calls Tryz.prog 23 #[.agg (ckV c)] w fun e w' => e = .returned (.tuple #[.bool (overC c), .int .i64 0]) ∧ Below w.heap.size w w' := by
  have CF := Lib.hid (fun w => pCheck hc (cleanCA_ok hc) w)
  have ho : overC c = ((c.st : Int) == 7 || (c.st : Int) == 8) := by
    unfold overC
    have e7 : ((c.st : Int) == 7) = (c.st == 7) := by rw [Bool.eq_iff_iff]; simp; omega
    have e8 : ((c.st : Int) == 8) = (c.st == 8) := by rw [Bool.eq_iff_iff]; simp; omega
    rw [e7, e8]
  rw [ho]
  unfold ckV ckA at CF ⊢
  clear hc ho
  generalize (c.st : Int) = x0 at *
  generalize (c.size : Int) = x1 at *
  generalize (c.digits : Int) = x2 at *
  generalize (c.left : Int) = x3 at *
  generalize (c.lines : Int) = x6 at *
  generalize (c.status : Int) = x7 at *
  generalize bs c.line = x5 at *
  generalize bs c.body = x4 at *
  have g0 : Below w.heap.size w (w.alloc (.cells #[.int .i64 x0, .int .i64 x1, .int .i64 x2, .int .i64 x3, .string x4, .string x5, .int .i64 x6, .int .i64 x7] 36)) := (Below.refl _ _).alloc (Nat.le_refl _) _
  have hb0 : Blk (w.alloc (.cells #[.int .i64 x0, .int .i64 x1, .int .i64 x2, .int .i64 x3, .string x4, .string x5, .int .i64 x6, .int .i64 x7] 36)) w.heap.size 36 #[.int .i64 x0, .int .i64 x1, .int .i64 x2, .int .i64 x3, .string x4, .string x5, .int .i64 x6, .int .i64 x7] := Blk.new w 36 _
  have HX := Lib.hid (And.intro g0 hb0)
  clear g0 hb0
  go_enter Tryz.func23, Tryz.ntmps23
  go_wp2_with fail
  (with_reducible refine (CF.out _).mono ?_); rintro e w1 ⟨rfl, g1⟩
  obtain ⟨g0, hb0⟩ := HX.out
  have hb0 := hb0.below g1 hb0.lt
  have p0 : w1.cell? ⟨w.heap.size, 0, none⟩ = some (.int .i64 x0) := hb0.cell 0
  have hg := g0.trans (g1.mono g0.size)
  have HG := Lib.hid (hg.alloc hg.size (.cells #[.int .i64 7, .int .i64 8] 3))
  have CI := Lib.hid (pIs x0 _ _ (reads_z w1 3 [7, 8] #[.int .i64 7, .int .i64 8] rfl))
  clear g0 g1 hb0 HX hg
  go_wp2_with fail
  (with_reducible refine (CI.out).mono ?_); rintro e w2 ⟨rfl, rfl⟩
  go_wp2_with fail
  go_ret2
  exact ⟨rfl, HG.out⟩
end
end Go.Proofs.YtkbihipgnlglbaaGreatDoor
