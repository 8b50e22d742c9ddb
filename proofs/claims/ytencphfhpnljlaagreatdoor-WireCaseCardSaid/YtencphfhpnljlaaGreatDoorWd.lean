/-
  The line of a field and its error, of the program and of the reference. The first error of a list of fields, of the program and of the reference. The fields with a name: their numbers and their values, of the program and of the reference. A list of fields and names asked: which error; of the program (ask) and of the reference (asked). All values of a name: of the program (All) and of the reference. The contracts of waypostkit on lists of fields: SameFields, OwnFields; the bounds of the statements (large). A field put where its name is there: of the program (Put). strings.Builder.WriteString at this seat: the laying by hand (the library's contract, one application), in this project's words. The text of a list of fields: of the program (Text). Words on new lists of fields, and on keys of maps. Line and Read of the program.
-/
import Derived.Test.YtencphfhpnljlaaGreatDoorWb1
import Derived.Test.YtencphfhpnljlaaGreatDoorWc
import Derived.Laws.StructEq
import Derived.BigQuiet
import Derived.Deep.QuietTactic
import Derived.Test.YtencphfhpnljlaaGreatDoorWa
import Derived.Shelf.Strings.Builder2
namespace Go.Proofs.YtencphfhpnljlaaGreatDoor

section
open Go.RowKit

theorem pline (f : Fld) (w : World) (h1 : f.1.length ≤ 1000000) (h2 : f.2.length ≤ 1000000) :
    Calls Tryz.prog 39 #[fldV f] w fun e w' => e = .returned (.string (bs (lineL f))) ∧ Below w.heap.size w w' := by
  have s1 : (bs f.1).size ≤ 1000000 := by rw [bs_size]; exact h1
  have s2 : (bs f.2).size ≤ 1000000 := by rw [bs_size]; exact h2
  by_cases he : f.2 = []
  · have e1 : (bs f.2).toList.isEmpty = true := by rw [Lib.toList_data, bs_list, he]; rfl
    have hl : bs f.1 ++ ⟨#[58]⟩ = bs (lineL f) := ba_ext (by rw [append_toList, bs_list, bs_list, lineL, if_pos he])
    have HL := Lib.hid hl
    unfold fldV
    clear he hl
    go_enter Tryz.func39, Tryz.ntmps39
    go_wp2_with fail
    go_ret
    exact ⟨ret_str HL.out, (Below.refl _ _).alloc (Nat.le_refl _) _⟩
  · have e1 : (bs f.2).toList.isEmpty = false := by rw [Lib.toList_data, bs_list]; simpa using he
    have hl : (bs f.1 ++ ⟨#[58, 32]⟩) ++ bs f.2 = bs (lineL f) := ba_ext (by rw [append_toList, append_toList, bs_list, bs_list, bs_list, lineL, if_neg he])
    have HL := Lib.hid hl
    unfold fldV
    clear he hl
    go_enter Tryz.func39, Tryz.ntmps39
    go_wp2_with fail
    go_ret
    exact ⟨ret_str HL.out, (Below.refl _ _).alloc (Nat.le_refl _) _⟩
theorem rline (f : Fld) (w : World) (h1 : f.1.length ≤ 1000000) (h2 : f.2.length ≤ 1000000) :
    Calls Tryz.prog 59 #[fldV f] w fun e w' => e = .returned (.string (bs (lineL f))) ∧ Below w.heap.size w w' := by
  have s1 : (bs f.1).size ≤ 1000000 := by rw [bs_size]; exact h1
  have s2 : (bs f.2).size ≤ 1000000 := by rw [bs_size]; exact h2
  by_cases he : f.2 = []
  · have e1 : (bs f.2).toList.isEmpty = true := by rw [Lib.toList_data, bs_list, he]; rfl
    have hl : bs f.1 ++ ⟨#[58]⟩ = bs (lineL f) := ba_ext (by rw [append_toList, bs_list, bs_list, lineL, if_pos he])
    have HL := Lib.hid hl
    unfold fldV
    clear he hl
    go_enter Tryz.func59, Tryz.ntmps59
    go_wp2_with fail
    go_ret
    exact ⟨ret_str HL.out, (Below.refl _ _).alloc (Nat.le_refl _) _⟩
  · have e1 : (bs f.2).toList.isEmpty = false := by rw [Lib.toList_data, bs_list]; simpa using he
    have hl : (bs f.1 ++ ⟨#[58, 32]⟩) ++ bs f.2 = bs (lineL f) := ba_ext (by rw [append_toList, append_toList, bs_list, bs_list, bs_list, lineL, if_neg he])
    have HL := Lib.hid hl
    unfold fldV
    clear he hl
    go_enter Tryz.func59, Tryz.ntmps59
    go_wp2_with fail
    go_ret
    exact ⟨ret_str HL.out, (Below.refl _ _).alloc (Nat.le_refl _) _⟩

set_option maxHeartbeats 4000000 in
theorem pone (f : Fld) (w : World) (h1 : f.1.length ≤ 100000) (h2 : f.2.length ≤ 100000) :
    Calls Tryz.prog 95 #[fldV f] w fun e w' => e = .returned (.int .i64 (oneL f)) ∧ Below w.heap.size w w' := by
  have cI := fun w => TIs_any (bs f.1) w (by rw [bs_size]; omega)
  have cV := fun w => TValue_any (bs f.2) w (by rw [bs_size]; omega)
  have cL := fun w => pline f w (by omega) (by omega)
  rw [bs_list] at cI cV
  have hll : (bs (lineL f)).size ≤ 300000 := by rw [bs_size]; have := lineL_len f; omega
  obtain ⟨E, hE⟩ : ∃ E, oneL f = E := ⟨_, rfl⟩
  rw [hE]
  unfold oneL at hE
  unfold fldV at cL ⊢
  rcases Bool.eq_false_or_eq_true (isTok f.1) with ht | ht
  · rw [ht] at cI hE
    rw [if_neg (by simp)] at hE
    rcases Bool.eq_false_or_eq_true (isVal f.2) with hv | hv
    · rw [hv] at cV hE
      rw [if_neg (by simp)] at hE
      have CI := Lib.hid cI
      have CV := Lib.hid cV
      have CL := Lib.hid cL
      have hsz : (bs (lineL f)).size = (lineL f).length := bs_size _
      clear cI cV cL ht hv
      have hx : (512 < (bs (lineL f)).size ∧ E = 4) ∨ ((bs (lineL f)).size ≤ 512 ∧ E = 0) := by
        by_cases h5 : 512 < (lineL f).length
        · rw [if_pos h5] at hE; exact .inl ⟨by omega, hE.symm⟩
        · rw [if_neg h5] at hE; exact .inr ⟨by omega, hE.symm⟩
      clear hE hsz
      rcases hx with ⟨h5, rfl⟩ | ⟨h5, rfl⟩
      all_goals (
        go_enter Tryz.func95, Tryz.ntmps95
        go_wp2_with fail
        (with_reducible refine (CI.out _).mono ?_); rintro e w1 ⟨rfl, hb1⟩
        have hW1 : Below w.heap.size w w1 := ((Below.refl _ _).alloc (Nat.le_refl _) _).trans (hb1.mono (by simp))
        have hB1 : Blk w1 w.heap.size 49 #[.string (bs f.1), .string (bs f.2)] := (Blk.new w _ _).below hb1 (by simp)
        have c1 : w1.cell? ⟨w.heap.size, 1, none⟩ = some (.string (bs f.2)) := hB1.cell 1
        have H1 := Lib.hid hB1
        clear hB1
        go_wp2_with fail
        (with_reducible refine (CV.out _).mono ?_); rintro e w2 ⟨rfl, hb2⟩
        have hB2 : Blk w2 w.heap.size 49 #[.string (bs f.1), .string (bs f.2)] := H1.out.below hb2 H1.out.lt
        have d0 : w2.cell? ⟨w.heap.size, 0, none⟩ = some (.string (bs f.1)) := hB2.cell 0
        have d1 : w2.cell? ⟨w.heap.size, 1, none⟩ = some (.string (bs f.2)) := hB2.cell 1
        clear hB2
        have hW2 : Below w.heap.size w w2 := hW1.trans (hb2.mono hW1.size)
        go_wp2_with fail
        (with_reducible refine (CL.out _).mono ?_); rintro e w3 ⟨rfl, hb3⟩
        go_wp2_with fail
        go_ret
        exact ⟨rfl, hW2.trans (hb3.mono hW2.size)⟩)
    · rw [hv] at cV hE
      rw [if_pos rfl] at hE
      have CI := Lib.hid cI
      have CV := Lib.hid cV
      subst hE
      clear cI cV cL ht hv
      go_enter Tryz.func95, Tryz.ntmps95
      go_wp2_with fail
      (with_reducible refine (CI.out _).mono ?_); rintro e w1 ⟨rfl, hb1⟩
      have hW1 : Below w.heap.size w w1 := ((Below.refl _ _).alloc (Nat.le_refl _) _).trans (hb1.mono (by simp))
      have hB1 : Blk w1 w.heap.size 49 #[.string (bs f.1), .string (bs f.2)] := (Blk.new w _ _).below hb1 (by simp)
      have c1 : w1.cell? ⟨w.heap.size, 1, none⟩ = some (.string (bs f.2)) := hB1.cell 1
      clear hB1
      go_wp2_with fail
      (with_reducible refine (CV.out _).mono ?_); rintro e w2 ⟨rfl, hb2⟩
      have hW2 : Below w.heap.size w w2 := hW1.trans (hb2.mono hW1.size)
      go_wp2_with fail
      go_ret
      exact ⟨rfl, hW2⟩
  · rw [ht] at cI hE
    rw [if_pos rfl] at hE
    have CI := Lib.hid cI
    subst hE
    clear cI cV cL ht
    go_enter Tryz.func95, Tryz.ntmps95
    go_wp2_with fail
    (with_reducible refine (CI.out _).mono ?_); rintro e w1 ⟨rfl, hb1⟩
    have hW1 : Below w.heap.size w w1 := ((Below.refl _ _).alloc (Nat.le_refl _) _).trans (hb1.mono (by simp))
    go_wp2_with fail
    go_ret
    exact ⟨rfl, hW1⟩
set_option maxHeartbeats 4000000 in
theorem rone (f : Fld) (w : World) (h1 : f.1.length ≤ 100000) (h2 : f.2.length ≤ 100000) :
    Calls Tryz.prog 54 #[fldV f] w fun e w' => e = .returned (.int .i64 (oneL f)) ∧ Below w.heap.size w w' := by
  have cI := fun w => rIs (bs f.1) w (by rw [bs_size]; omega)
  have cV := fun w => rValue (bs f.2) w (by rw [bs_size]; omega)
  have cL := fun w => rline f w (by omega) (by omega)
  rw [bs_list] at cI cV
  have hll : (bs (lineL f)).size ≤ 300000 := by rw [bs_size]; have := lineL_len f; omega
  obtain ⟨E, hE⟩ : ∃ E, oneL f = E := ⟨_, rfl⟩
  rw [hE]
  unfold oneL at hE
  unfold fldV at cL ⊢
  rcases Bool.eq_false_or_eq_true (isTok f.1) with ht | ht
  · rw [ht] at cI hE
    rw [if_neg (by simp)] at hE
    rcases Bool.eq_false_or_eq_true (isVal f.2) with hv | hv
    · rw [hv] at cV hE
      rw [if_neg (by simp)] at hE
      have CI := Lib.hid cI
      have CV := Lib.hid cV
      have CL := Lib.hid cL
      have hsz : (bs (lineL f)).size = (lineL f).length := bs_size _
      clear cI cV cL ht hv
      have hx : (512 < (bs (lineL f)).size ∧ E = 4) ∨ ((bs (lineL f)).size ≤ 512 ∧ E = 0) := by
        by_cases h5 : 512 < (lineL f).length
        · rw [if_pos h5] at hE; exact .inl ⟨by omega, hE.symm⟩
        · rw [if_neg h5] at hE; exact .inr ⟨by omega, hE.symm⟩
      clear hE hsz
      rcases hx with ⟨h5, rfl⟩ | ⟨h5, rfl⟩
      all_goals (
        go_enter Tryz.func54, Tryz.ntmps54
        go_wp2_with fail
        (with_reducible refine (CI.out _).mono ?_); rintro e w1 ⟨rfl, rfl⟩
        have hW1 : Below w.heap.size w (w.alloc (.cells #[.string (bs f.1), .string (bs f.2)] 49)) := (Below.refl _ _).alloc (Nat.le_refl _) _
        go_wp2_with fail
        (with_reducible refine (CV.out _).mono ?_); rintro e w2 ⟨rfl, rfl⟩
        go_wp2_with fail
        (with_reducible refine (CL.out _).mono ?_); rintro e w3 ⟨rfl, hb3⟩
        go_wp2_with fail
        go_ret
        exact ⟨rfl, hW1.trans (hb3.mono hW1.size)⟩)
    · rw [hv] at cV hE
      rw [if_pos rfl] at hE
      have CI := Lib.hid cI
      have CV := Lib.hid cV
      subst hE
      clear cI cV cL ht hv
      go_enter Tryz.func54, Tryz.ntmps54
      go_wp2_with fail
      (with_reducible refine (CI.out _).mono ?_); rintro e w1 ⟨rfl, rfl⟩
      have hW1 : Below w.heap.size w (w.alloc (.cells #[.string (bs f.1), .string (bs f.2)] 49)) := (Below.refl _ _).alloc (Nat.le_refl _) _
      go_wp2_with fail
      (with_reducible refine (CV.out _).mono ?_); rintro e w2 ⟨rfl, rfl⟩
      go_wp2_with fail
      go_ret
      exact ⟨rfl, hW1⟩
  · rw [ht] at cI hE
    rw [if_pos rfl] at hE
    have CI := Lib.hid cI
    subst hE
    clear cI cV cL ht
    go_enter Tryz.func54, Tryz.ntmps54
    go_wp2_with fail
    (with_reducible refine (CI.out _).mono ?_); rintro e w1 ⟨rfl, rfl⟩
    have hW1 : Below w.heap.size w (w.alloc (.cells #[.string (bs f.1), .string (bs f.2)] 49)) := (Below.refl _ _).alloc (Nat.le_refl _) _
    go_wp2_with fail
    go_ret
    exact ⟨rfl, hW1⟩
end

section
open Go.RowKit

def fldsOk (l : List Fld) : Prop := ∀ f ∈ l, f.1.length ≤ 100000 ∧ f.2.length ≤ 100000

set_option maxRecDepth 100000 in
set_option maxHeartbeats 4000000 in
theorem pCheckF (A : Option Addr) (n c : Nat) (l : List Fld) (w : World) (hr : Reads w w.heap.size 2 A n (fldsC l)) (hn : n ≤ 1000000) (hl : fldsOk l) :
    Calls Tryz.prog 63 #[.slice A n c] w fun e w' => e = .returned (.tuple #[.int .i64 (checkL l).1, .int .i64 (checkL l).2]) ∧ Below w.heap.size w w' := by
  obtain rfl := hr.flen
  obtain ⟨X, hX⟩ : ∃ X, checkL l = X := ⟨_, rfl⟩
  rw [hX]
  unfold checkL at hX
  by_cases h32 : 32 < l.length
  · have hd : decide ((32 : Int) < (l.length : Int)) = true := by simp; omega
    rw [if_pos h32] at hX
    subst hX
    clear hr hl
    go_enter Tryz.func63, Tryz.ntmps63
    go_wp2_with fail
    go_ret2
    exact ⟨rfl, Below.refl _ _⟩
  · have hd : decide ((32 : Int) < (l.length : Int)) = false := by simp; omega
    rw [if_neg h32] at hX
    have HX := Lib.hid hX
    have HR := Lib.hid hr
    have HL := Lib.hid hl
    clear hX hr hl
    go_enter Tryz.func63, Tryz.ntmps63
    go_wp2_with fail
    go_loopw [12] (fun i wr => ∃ k : Nat, i = .int .i64 k ∧ k ≤ l.length ∧ Hid (∀ f ∈ l.take k, oneL f = 0) ∧ Below w.heap.size w wr) (fun i _ => l.length - (intOf i).toNat)
    case atStart => exact ⟨0, rfl, by omega, hide (by simp), Below.refl _ _⟩
    case round =>
      obtain ⟨k, rfl, hk, HT, hb⟩ := hrel
      rename World => W0
      by_cases hlt : k < l.length
      · obtain ⟨b, o, rfl, hbl, q0, q1⟩ := HR.out.fld k hlt
        have c0 := (hb.cell (p := ⟨b, o + k * 2, none⟩) hbl).trans q0
        have c1 := (hb.cell (p := ⟨b, o + k * 2 + 1, none⟩) hbl).trans q1
        obtain ⟨f, hf⟩ : ∃ f, l[k] = f := ⟨_, rfl⟩
        have hok := HL.out l[k] (List.getElem_mem hlt)
        rw [hf] at c0 c1 hok
        have cO := fun w => pone f w hok.1 hok.2
        obtain ⟨E, hE⟩ : ∃ E, oneL f = E := ⟨_, rfl⟩
        rw [hE] at cO
        unfold fldV at cO
        have CO := Lib.hid cO
        have HF := Lib.hid (And.intro hf hE)
        clear q0 q1 cO hf hE hok
        by_cases he : E = 0
        · subst he
          have e1 : (((0 : Nat) : Int) != 0) = false := rfl
          have HT' : Hid (∀ f ∈ l.take (k + 1), oneL f = 0) := by
            rw [List.take_succ_eq_append_getElem hlt]
            intro y hy
            rcases List.mem_append.1 hy with hy | hy
            · exact HT.out y hy
            · rw [List.mem_singleton.1 hy, HF.out.1]; exact HF.out.2
          go_wp2_with fail
          (with_reducible refine (CO.out _).mono ?_); rintro e w1 ⟨rfl, hb1⟩
          have hbX := (hb.alloc hb.size _).trans (hb1.mono (by have := hb.size; simp; omega))
          go_wp2_with fail
          go_roundw
          case rel => exact ⟨k + 1, by go_num, by omega, HT', hbX⟩
          case measure => simp [intOf]; omega
        · have e2 : ((E : Int) != 0) = true := by rw [bne_iff_ne]; omega
          have hX := HX.out
          rw [firstE_at l k hlt HT.out (by rw [HF.out.1, HF.out.2]; exact he), HF.out.1, HF.out.2] at hX
          subst hX
          clear he
          go_wp2_with fail
          (with_reducible refine (CO.out _).mono ?_); rintro e w1 ⟨rfl, hb1⟩
          have hbX := (hb.alloc hb.size _).trans (hb1.mono (by have := hb.size; simp; omega))
          go_wp2_with fail
          go_ret2
          exact ⟨rfl, hbX⟩
      · have hkl : k = l.length := by omega
        subst hkl
        have hd2 : decide ((l.length : Int) < (l.length : Int)) = false := by simp
        have hX := HX.out
        rw [firstE_none l (fun f hf => HT.out f (by rw [List.take_length]; exact hf))] at hX
        subst hX
        go_wp2_with fail
        go_ret2
        exact ⟨rfl, hb⟩

set_option maxRecDepth 100000 in
set_option maxHeartbeats 4000000 in
theorem rCheckF (A : Option Addr) (n c : Nat) (l : List Fld) (w : World) (hr : Reads w w.heap.size 2 A n (fldsC l)) (hn : n ≤ 1000000) (hl : fldsOk l) :
    Calls Tryz.prog 31 #[.slice A n c] w fun e w' => e = .returned (.tuple #[.int .i64 (checkL l).1, .int .i64 (checkL l).2]) ∧ Below w.heap.size w w' := by
  obtain rfl := hr.flen
  obtain ⟨X, hX⟩ : ∃ X, checkL l = X := ⟨_, rfl⟩
  rw [hX]
  unfold checkL at hX
  by_cases h32 : 32 < l.length
  · have hd : decide ((32 : Int) < (l.length : Int)) = true := by simp; omega
    rw [if_pos h32] at hX
    subst hX
    clear hr hl
    go_enter Tryz.func31, Tryz.ntmps31
    go_wp2_with fail
    go_ret2
    exact ⟨rfl, Below.refl _ _⟩
  · have hd : decide ((32 : Int) < (l.length : Int)) = false := by simp; omega
    rw [if_neg h32] at hX
    have HX := Lib.hid hX
    have HR := Lib.hid hr
    have HL := Lib.hid hl
    clear hX hr hl
    go_enter Tryz.func31, Tryz.ntmps31
    go_wp2_with fail
    go_loopw [4] (fun i wr => ∃ k : Nat, i = .int .i64 k ∧ k ≤ l.length ∧ Hid (∀ f ∈ l.take k, oneL f = 0) ∧ Below w.heap.size w wr) (fun i _ => l.length - (intOf i).toNat)
    case atStart => exact ⟨0, rfl, by omega, hide (by simp), Below.refl _ _⟩
    case round =>
      obtain ⟨k, rfl, hk, HT, hb⟩ := hrel
      rename World => W0
      by_cases hlt : k < l.length
      · obtain ⟨b, o, rfl, hbl, q0, q1⟩ := HR.out.fld k hlt
        have c0 := (hb.cell (p := ⟨b, o + k * 2, none⟩) hbl).trans q0
        have c1 := (hb.cell (p := ⟨b, o + k * 2 + 1, none⟩) hbl).trans q1
        obtain ⟨f, hf⟩ : ∃ f, l[k] = f := ⟨_, rfl⟩
        have hok := HL.out l[k] (List.getElem_mem hlt)
        rw [hf] at c0 c1 hok
        have cO := fun w => rone f w hok.1 hok.2
        obtain ⟨E, hE⟩ : ∃ E, oneL f = E := ⟨_, rfl⟩
        rw [hE] at cO
        unfold fldV at cO
        have CO := Lib.hid cO
        have HF := Lib.hid (And.intro hf hE)
        clear q0 q1 cO hf hE hok
        by_cases he : E = 0
        · subst he
          have e1 : (((0 : Nat) : Int) != 0) = false := rfl
          have HT' : Hid (∀ f ∈ l.take (k + 1), oneL f = 0) := by
            rw [List.take_succ_eq_append_getElem hlt]
            intro y hy
            rcases List.mem_append.1 hy with hy | hy
            · exact HT.out y hy
            · rw [List.mem_singleton.1 hy, HF.out.1]; exact HF.out.2
          go_wp2_with fail
          (with_reducible refine (CO.out _).mono ?_); rintro e w1 ⟨rfl, hb1⟩
          have hbX := hb.trans (hb1.mono hb.size)
          go_wp2_with fail
          go_roundw
          case rel => exact ⟨k + 1, by go_num, by omega, HT', hbX⟩
          case measure => simp [intOf]; omega
        · have e2 : ((E : Int) != 0) = true := by rw [bne_iff_ne]; omega
          have hX := HX.out
          rw [firstE_at l k hlt HT.out (by rw [HF.out.1, HF.out.2]; exact he), HF.out.1, HF.out.2] at hX
          subst hX
          clear he
          go_wp2_with fail
          (with_reducible refine (CO.out _).mono ?_); rintro e w1 ⟨rfl, hb1⟩
          have hbX := hb.trans (hb1.mono hb.size)
          go_wp2_with fail
          go_ret2
          exact ⟨rfl, hbX⟩
      · have hkl : k = l.length := by omega
        subst hkl
        have hd2 : decide ((l.length : Int) < (l.length : Int)) = false := by simp
        have hX := HX.out
        rw [firstE_none l (fun f hf => HT.out f (by rw [List.take_length]; exact hf))] at hX
        subst hX
        go_wp2_with fail
        go_ret2
        exact ⟨rfl, hb⟩
end

section
open Go.RowKit

def sameN (nm : List UInt8) (f : Fld) : Bool := lowL f.1 == lowL nm
/-- the numbers of the fields with a name -/
def namedL (nm : List UInt8) : Nat → List Fld → List Nat
  | _, [] => []
  | k, f :: l => if sameN nm f then k :: namedL nm (k + 1) l else namedL nm (k + 1) l
theorem namedL_app (nm : List UInt8) (k : Nat) (l : List Fld) (f : Fld) : namedL nm k (l ++ [f]) = namedL nm k l ++ (if sameN nm f then [k + l.length] else []) := by
  induction l generalizing k with
  | nil => simp [namedL]
  | cons g l ih =>
    rw [List.cons_append, namedL, namedL, ih]
    split <;> simp [Nat.add_assoc, Nat.add_comm 1]
theorem namedL_lt (nm : List UInt8) (k : Nat) (l : List Fld) : ∀ i ∈ namedL nm k l, k ≤ i ∧ i < k + l.length := by
  induction l generalizing k with
  | nil => simp [namedL]
  | cons g l ih =>
    intro i hi
    rw [namedL] at hi
    split at hi
    · rcases List.mem_cons.1 hi with rfl | hi
      · simp
      · have := ih (k + 1) i hi; simp; omega
    · have := ih (k + 1) i hi; simp; omega
theorem namedL_len (nm : List UInt8) (k : Nat) (l : List Fld) : (namedL nm k l).length ≤ l.length := by
  induction l generalizing k with
  | nil => simp [namedL]
  | cons g l ih =>
    rw [namedL]
    have := ih (k + 1)
    split <;> simp <;> omega
/-- the values of the fields with a name -/
def valuesL (nm : List UInt8) (l : List Fld) : List (List UInt8) := (l.filter (sameN nm)).map (·.2)
theorem valuesL_app (nm : List UInt8) (l : List Fld) (f : Fld) : valuesL nm (l ++ [f]) = valuesL nm l ++ (if sameN nm f then [f.2] else []) := by
  unfold valuesL
  rw [List.filter_append, List.map_append]
  congr 1
  by_cases h : sameN nm f = true
  · simp [h]
  · simp [h]
theorem valuesL_len (nm : List UInt8) (l : List Fld) : (valuesL nm l).length ≤ l.length := by
  unfold valuesL; rw [List.length_map]; exact List.length_filter_le _ _
theorem values_named (nm : List UInt8) (l : List Fld) : (namedL nm 0 l).map (fun i => (l.getD i ([], [])).2) = valuesL nm l := by
  have h : ∀ (p m : List Fld), (namedL nm p.length m).map (fun i => ((p ++ m).getD i ([], [])).2) = valuesL nm m := by
    intro p m
    induction m generalizing p with
    | nil => rfl
    | cons f m ih =>
      have e := ih (p ++ [f])
      rw [List.length_append, List.append_assoc] at e
      rw [namedL]
      unfold valuesL at e ⊢
      by_cases hs : sameN nm f = true
      · rw [if_pos hs, List.map_cons, List.filter_cons, if_pos hs, List.map_cons]
        congr 1
        · simp
      · rw [if_neg hs, List.filter_cons, if_neg hs]
        exact e
  exact h [] l
theorem take_snoc_of {α : Type} {l : List α} {k : Nat} {f : α} (h : k < l.length) (e : l[k] = f) : l.take (k + 1) = l.take k ++ [f] := by
  rw [List.take_succ_eq_append_getElem h, e]

/-- numbers handed back -/
def IntsPost (xs : List Nat) (w : World) (e : Ending) (w' : World) : Prop := ∃ A cap, e = .returned (.slice A xs.length cap) ∧ Reads w' w'.heap.size 1 A xs.length (ints xs) ∧ Below w.heap.size w w'
/-- texts handed back -/
def TextsPost (xs : List (List UInt8)) (w : World) (e : Ending) (w' : World) : Prop := ∃ A cap, e = .returned (.slice A xs.length cap) ∧ xs.length ≤ cap ∧ Reads w' w'.heap.size 1 A xs.length (strs xs) ∧ Below w.heap.size w w'
theorem own_capA {base e size n : Nat} {W : World} {A : Option Addr} {cap : Nat} {xs : List Value} (ho : W.ownsRow base e size (.slice A n cap) n xs) : n ≤ cap := by
  rcases ho.2 with ⟨h0, h1⟩ | ⟨g, c, cur, h0, _, _, h1, _⟩
  · omega
  · injection h0 with _ _ h2; omega

theorem getD_at {α : Type} (l : List α) (i : Nat) (d : α) (h : i < l.length) : l.getD i d = l[i] := by
  rw [List.getD_eq_getElem?_getD, List.getElem?_eq_getElem h]; rfl
theorem Reads.num {w : World} {B n : Nat} {A : Option Addr} {xs : List Nat} (h : Reads w B 1 A n (ints xs)) (k : Nat) (hk : k < xs.length) : ∃ b o, A = some ⟨b, o, none⟩ ∧ b < B ∧ w.cell? ⟨b, o + k, none⟩ = some (.int .i64 xs[k]) := by
  have hl := h.1
  rw [ints_len] at hl
  obtain ⟨b, o, e, hb, hc⟩ := h.lit (by omega)
  exact ⟨b, o, e, hb, hc k _ (ints_get xs k hk)⟩

end

section
open Go.RowKit

/-- the error of a list and names -/
def askL (l : List Fld) (ns : List (List UInt8)) : Nat := if (checkL l).1 ≠ 0 then (checkL l).1 else if ns.all isTok = true then 0 else 11
theorem all_of_take {ns : List (List UInt8)} (h : ∀ x ∈ ns.take ns.length, isTok x = true) : ns.all isTok = true := by
  rw [List.take_length] at h; exact List.all_eq_true.2 h
theorem not_all_at {ns : List (List UInt8)} {k : Nat} (hk : k < ns.length) (h : isTok ns[k] = false) : ns.all isTok = false := by
  rw [List.all_eq_false]; exact ⟨ns[k], List.getElem_mem hk, by rw [h]; simp⟩
def AskRel (ns : List (List UInt8)) (e0 k : Nat) : Prop := (e0 = 0 ∧ ∀ x ∈ ns.take k, isTok x = true) ∨ (e0 = 11 ∧ ns.all isTok = false)
def nilAsk : Array Value := #[.slice none 0 0, .slice none 0 0]

set_option maxRecDepth 100000 in
set_option maxHeartbeats 8000000 in
theorem pask (A B : Option Addr) (n c m d : Nat) (l : List Fld) (ns : List (List UInt8)) (w : World) (hr : Reads w w.heap.size 2 A n (fldsC l)) (hs : Reads w w.heap.size 1 B m (strs ns)) (hn : n ≤ 100000) (hm : m ≤ 100000) (hl : fldsOk l) (hx : ∀ x ∈ ns, x.length ≤ 9223372036854775807) :
    Calls Tryz.prog 37 #[.slice A n c, .slice B m d] w fun e w' => e = .returned (.tuple #[.agg (if askL l ns = 0 then #[.slice A n c, .slice B m d] else nilAsk), .int .i64 (askL l ns)]) ∧ Below w.heap.size w w' := by
  obtain rfl := hr.flen
  obtain rfl := hs.len
  obtain ⟨X, hX⟩ : ∃ X, askL l ns = X := ⟨_, rfl⟩
  rw [hX]
  unfold askL at hX
  have cC := fun w hr => pCheckF A l.length c l w hr (by omega) hl
  obtain ⟨⟨E, I⟩, hE⟩ : ∃ x, checkL l = x := ⟨_, rfl⟩
  rw [hE] at cC hX
  simp only at cC hX
  have CC := Lib.hid cC
  have HR := Lib.hid hr
  have HS := Lib.hid hs
  have HXS := Lib.hid hx
  have CI := Lib.hid TIs_any
  have hB0 := Blk.new w 82 nilAsk
  have hr0 := (HR.out.alloc (Nat.le_refl _) (.cells nilAsk 82)).more (show w.heap.size ≤ (w.alloc (.cells nilAsk 82)).heap.size by simp)
  have HB0 := Lib.hid (And.intro hB0 hr0)
  clear cC hE hr hs hl hx hB0 hr0
  unfold nilAsk at HB0
  by_cases he : E = 0
  · subst he
    rw [if_neg (by simp)] at hX
    have HX := Lib.hid hX
    have e1 : (((0 : Nat) : Int) != 0) = false := rfl
    clear hX
    go_enter Tryz.func37, Tryz.ntmps37
    go_wp2_with fail
    (with_reducible refine (CC.out _ HB0.out.2).mono ?_); rintro e w1 ⟨rfl, hb1⟩
    have HB1 := Lib.hid (HB0.out.1.below hb1 HB0.out.1.lt)
    have hW1 : Below w.heap.size w w1 := ((Below.refl _ _).alloc (Nat.le_refl _) _).trans (hb1.mono (by simp))
    clear hb1
    go_wp2_with fail
    go_loopw [21] (fun i wr => ∃ k : Nat, i = .int .i64 k ∧ k ≤ ns.length ∧ Hid (∀ x ∈ ns.take k, isTok x = true) ∧ Hid (Blk wr w.heap.size 82 #[.slice none 0 0, .slice none 0 0]) ∧ Below w.heap.size w wr) (fun i _ => ns.length - (intOf i).toNat)
    case atStart => exact ⟨0, rfl, by omega, hide (by simp), HB1, hW1⟩
    case round =>
      obtain ⟨k, rfl, hk, HT, HB, hb⟩ := hrel
      rename World => W0
      by_cases hlt : k < ns.length
      · obtain ⟨b, o, rfl, hbl, q0⟩ := HS.out.text k hlt
        have c0 := (hb.cell (p := ⟨b, o + k, none⟩) hbl).trans q0
        obtain ⟨x, hxk⟩ : ∃ x, ns[k] = x := ⟨_, rfl⟩
        have hxl := HXS.out ns[k] (List.getElem_mem hlt)
        rw [hxk] at c0 hxl
        have cI := fun w => CI.out (bs x) w (by rw [bs_size]; omega)
        rw [bs_list] at cI
        have HXK := Lib.hid hxk
        clear q0 hxk
        rcases Bool.eq_false_or_eq_true (isTok x) with ht | ht
        · rw [ht] at cI
          have CI' := Lib.hid cI
          have HT' : Hid (∀ x ∈ ns.take (k + 1), isTok x = true) := by
            rw [List.take_succ_eq_append_getElem hlt]
            intro y hy
            rcases List.mem_append.1 hy with hy | hy
            · exact HT.out y hy
            · rw [List.mem_singleton.1 hy, HXK.out]; exact ht
          clear cI ht
          go_wp2_with fail
          (with_reducible refine (CI'.out _).mono ?_); rintro e w2 ⟨rfl, hb2⟩
          have HB2 := Lib.hid (HB.out.below hb2 HB.out.lt)
          have hbX := hb.trans (hb2.mono hb.size)
          clear hb2
          go_wp2_with fail
          go_roundw
          case rel => exact ⟨k + 1, by go_num, by omega, HT', HB2, hbX⟩
          case measure => simp [intOf]; omega
        · rw [ht] at cI
          have CI' := Lib.hid cI
          have hX := HX.out
          rw [not_all_at hlt (by rw [HXK.out]; exact ht), if_neg (by simp)] at hX
          subst hX
          clear cI ht
          go_wp2_with fail
          (with_reducible refine (CI'.out _).mono ?_); rintro e w2 ⟨rfl, hb2⟩
          have hB2 := HB.out.below hb2 HB.out.lt
          have hbX := hb.trans (hb2.mono hb.size)
          have d0 : w2.cell? ⟨w.heap.size, 0, none⟩ = some (.slice none 0 0) := hB2.cell 0
          have d1 : w2.cell? ⟨w.heap.size, 1, none⟩ = some (.slice none 0 0) := hB2.cell 1
          have f0 := hB2.frozen 0
          have f1 := hB2.frozen 1
          have HB2 := Lib.hid hB2
          clear hb2 hB2
          go_wp2_with fail
          refine bodyPost_ret (results_cell_row_tmp (p := 4) (u := 5) (ty := 82) (by kernel_rfl) _ _ w.heap.size 82 nilAsk (0, 0) _ rfl ((HB2.out.set_ 0 _).set_ 1 _) Tryz.underlying82 rfl (by kernel_rfl)) rfl ?_
          exact ⟨rfl, (hbX.setCell (by simp) _).setCell (by simp) _⟩
      · have hkl : k = ns.length := by omega
        subst hkl
        have hd2 : decide ((ns.length : Int) < (ns.length : Int)) = false := by simp
        have hX := HX.out
        rw [all_of_take HT.out, if_pos rfl] at hX
        subst hX
        have hB2 := HB.out
        have d0 : W0.cell? ⟨w.heap.size, 0, none⟩ = some (.slice none 0 0) := hB2.cell 0
        have d1 : W0.cell? ⟨w.heap.size, 1, none⟩ = some (.slice none 0 0) := hB2.cell 1
        have f0 := hB2.frozen 0
        have f1 := hB2.frozen 1
        clear hB2
        go_wp2_with fail
        refine bodyPost_ret (results_cell_row_tmp (p := 4) (u := 5) (ty := 82) (by kernel_rfl) _ _ w.heap.size 82 #[.slice A l.length c, .slice B ns.length d] (0, 0) _ rfl ((HB.out.set_ 0 _).set_ 1 _) Tryz.underlying82 rfl (by kernel_rfl)) rfl ?_
        exact ⟨rfl, (hb.setCell (by simp) _).setCell (by simp) _⟩
  · rw [if_pos he] at hX
    subst hX
    rw [if_neg he]
    have e2 : ((E : Int) != 0) = true := by rw [bne_iff_ne]; omega
    go_enter Tryz.func37, Tryz.ntmps37
    go_wp2_with fail
    (with_reducible refine (CC.out _ HB0.out.2).mono ?_); rintro e w1 ⟨rfl, hb1⟩
    have hB1 := HB0.out.1.below hb1 HB0.out.1.lt
    have hW1 : Below w.heap.size w w1 := ((Below.refl _ _).alloc (Nat.le_refl _) _).trans (hb1.mono (by simp))
    have d0 : w1.cell? ⟨w.heap.size, 0, none⟩ = some (.slice none 0 0) := hB1.cell 0
    have d1 : w1.cell? ⟨w.heap.size, 1, none⟩ = some (.slice none 0 0) := hB1.cell 1
    have f0 := hB1.frozen 0
    have f1 := hB1.frozen 1
    have HB1 := Lib.hid hB1
    clear hb1 hB1
    go_wp2_with fail
    refine bodyPost_ret (results_cell_row_tmp (p := 4) (u := 5) (ty := 82) (by kernel_rfl) _ _ w.heap.size 82 nilAsk (0, 0) _ rfl ((HB1.out.set_ 0 _).set_ 1 _) Tryz.underlying82 rfl (by kernel_rfl)) rfl ?_
    exact ⟨rfl, (hW1.setCell (by simp) _).setCell (by simp) _⟩

end

section
open Go.RowKit

/-- all values of a name, or none where there is an error -/
def allL (nm : List UInt8) (l : List Fld) : List (List UInt8) := if askL l [nm] = 0 then valuesL nm l else []
theorem allL_ok {nm : List UInt8} {l : List Fld} (h : askL l [nm] = 0) : allL nm l = valuesL nm l := if_pos h
theorem allL_no {nm : List UInt8} {l : List Fld} (h : ¬ askL l [nm] = 0) : allL nm l = [] := if_neg h
theorem allL_len (nm : List UInt8) (l : List Fld) : (allL nm l).length ≤ l.length := by
  unfold allL; split
  · exact valuesL_len nm l
  · simp
theorem askL_fields {l : List Fld} {ns : List (List UInt8)} (h : askL l ns = 0) : l.length ≤ 32 ∧ ∀ f ∈ l, oneL f = 0 := by
  unfold askL at h
  split at h
  · rename_i h1; exact absurd h h1
  · rename_i h1
    have h1 : (checkL l).1 = 0 := by omega
    unfold checkL at h1
    split at h1
    · simp at h1
    · exact ⟨by omega, firstE_zero h1⟩
theorem oneL_len {f : Fld} (h : oneL f = 0) : f.1.length + f.2.length ≤ 512 := by
  unfold oneL at h
  split at h
  · simp at h
  · split at h
    · simp at h
    · split at h
      · simp at h
      · rename_i h3
        unfold lineL at h3
        split at h3
        · rename_i h4; rw [h4]; simp at h3 ⊢; omega
        · simp at h3; omega
theorem allL_each (nm : List UInt8) (l : List Fld) : (allL nm l).length ≤ 32 ∧ ∀ x ∈ allL nm l, x.length ≤ 512 := by
  by_cases h : askL l [nm] = 0
  · obtain ⟨h1, h2⟩ := askL_fields h
    refine ⟨by have := allL_len nm l; omega, fun x hx => ?_⟩
    rw [allL_ok h] at hx
    obtain ⟨f, hf, rfl⟩ := List.mem_map.1 hx
    have := oneL_len (h2 f (List.mem_filter.1 hf).1)
    omega
  · rw [allL_no h]; simp
theorem joinL_each (xs : List (List UInt8)) (M : Nat) (h : ∀ x ∈ xs, x.length ≤ M) : (joinL xs).length ≤ xs.length * (M + 2) := by
  have key : ∀ k, k ≤ xs.length → (joinL (xs.take k)).length ≤ k * (M + 2) := by
    intro k
    induction k with
    | zero => intro _; simp [joinL_nil]
    | succ k ih =>
      intro hk
      have hx := h xs[k] (List.getElem_mem (by omega))
      have := ih (by omega)
      rw [joinL_succ xs k (by omega), Nat.succ_mul]
      split
      · omega
      · simp [sep2]; omega
  have := key xs.length (Nat.le_refl _)
  rwa [List.take_length] at this
theorem joinL_all (nm : List UInt8) (l : List Fld) : (joinL (allL nm l)).length ≤ 100000 := by
  obtain ⟨h1, h2⟩ := allL_each nm l
  have := joinL_each _ 512 h2
  have h3 : (allL nm l).length * (512 + 2) ≤ 32 * (512 + 2) := Nat.mul_le_mul_right _ h1
  omega

/-- all values handed back, and the error -/
def AllPost (nm : List UInt8) (l : List Fld) (w : World) (e : Ending) (w' : World) : Prop := ∃ A cap, e = .returned (.tuple #[.slice A (allL nm l).length cap, .int .i64 (askL l [nm])]) ∧ (allL nm l).length ≤ cap ∧ Reads w' w'.heap.size 1 A (allL nm l).length (strs (allL nm l)) ∧ Below w.heap.size w w'
theorem strs_one1 (nm : ByteArray) : (#[Value.string nm] : Array Value).toList = strs [nm.data.toList] := rfl

def getT : List (List UInt8) → List UInt8 × Bool
  | [] => ([], false)
  | x :: _ => (x, true)
def comT : List (List UInt8) → List UInt8 × Bool
  | [] => ([], false)
  | x :: r => (joinL (x :: r), true)

theorem comT_eq (V : List (List UInt8)) : comT V = (joinL V, decide (0 < V.length)) := by
  cases V with
  | nil => rfl
  | cons x r => simp [comT]

end

section
open Go.RowKit

theorem inFld (a b c d : ByteArray) (w : World) : (Op.equalIn 10000 49 (.agg #[.string a, .string b]) (.agg #[.string c, .string d])).run Tryz.prog w = .ok (a.toList == c.toList && b.toList == d.toList) w := by
  have u1 := Tryz.underlying9
  have u2 := Tryz.isAgg9
  have z3 := Tryz.sizeOf9
  have f0 := Tryz.underlying49
  have f1 : Tryz.prog.underlying 49 = some (.struct (Tryz.prog.fieldsOf 49)) := by unfold Program.fieldsOf; rw [f0]
  rw [show (10000 : Nat) = 9999 + 1 from rfl, run_equalIn_struct _ _ _ _ _ f1 (by kernel_rfl)]
  unfold Program.fieldsOf
  rw [f0]
  go_simp
  by_cases h0 : a.toList = c.toList <;> by_cases h1 : b.toList = d.toList <;> simp [h0, h1]
theorem eqFld (a b c d : ByteArray) (w : World) : (binOp .eql 49 (.agg #[.string a, .string b]) (.agg #[.string c, .string d])).run Tryz.prog w = .ok (.bool (a.toList == c.toList && b.toList == d.toList)) w := by
  rw [run_eql_struct, inFld]; rfl
theorem neFld (a b c d : ByteArray) (w : World) : (binOp .neq 49 (.agg #[.string a, .string b]) (.agg #[.string c, .string d])).run Tryz.prog w = .ok (.bool (!(a.toList == c.toList && b.toList == d.toList))) w := by
  rw [run_neq_struct, inFld]; rfl
theorem fld_same {x y : Fld} (h : x = y) : ((bs x.1).toList == (bs y.1).toList && (bs x.2).toList == (bs y.2).toList) = true := by
  subst h; simp
theorem fld_other {x y : Fld} (h : x ≠ y) : ((bs x.1).toList == (bs y.1).toList && (bs x.2).toList == (bs y.2).toList) = false := by
  rw [Bool.and_eq_false_iff]
  by_cases h1 : x.1 = y.1
  · exact .inr (ne_texts fun e => h (Prod.ext h1 e))
  · exact .inl (ne_texts h1)
set_option maxRecDepth 100000 in
set_option maxHeartbeats 4000000 in
theorem SameFields_any (A B : Option Addr) (n m c d : Nat) (xs ys : List Fld) (w : World) (hr : Reads w w.heap.size 2 A n (fldsC xs)) (ht : Reads w w.heap.size 2 B m (fldsC ys)) (hn : n ≤ 1000000) (hm : m ≤ 1000000) :
    Calls Tryz.prog 12 #[.slice A n c, .slice B m d] w fun e w' => e = .returned (.bool (decide (xs = ys))) ∧ ∃ k, w' = w.drewN k := by
  obtain rfl := hr.flen
  obtain rfl := ht.flen
  obtain ⟨R, hR⟩ : ∃ R, decide (xs = ys) = R := ⟨_, rfl⟩
  rw [hR]
  by_cases hl : xs.length = ys.length
  · have hd : ((xs.length : Int) != (ys.length : Int)) = false := by rw [hl]; simp
    have HX := Lib.hid hr
    have HY := Lib.hid ht
    have HR := Lib.hid hR
    have HL := Lib.hid hl
    clear hr ht hR hl
    go_enter Tryz.func12, Tryz.ntmps12
    go_wp2_with fail
    go_loopw [5] (fun i wr => ∃ k j : Nat, i = .int .i64 k ∧ k ≤ xs.length ∧ Hid (xs.take k = ys.take k) ∧ wr = w.drewN j) (fun i _ => xs.length - (intOf i).toNat)
    case atStart => exact ⟨0, 0, rfl, by omega, rfl, rfl⟩
    case round =>
      obtain ⟨k, j, rfl, hk, HT, rfl⟩ := hrel
      by_cases hlt : k < xs.length
      · have hlt2 : k < ys.length := by rw [← HL.out]; exact hlt
        obtain ⟨b, o, rfl, _, c1, c2⟩ := HX.out.fld k hlt
        obtain ⟨b', o', rfl, _, c3, c4⟩ := HY.out.fld k hlt2
        obtain ⟨x, hx⟩ : ∃ x, xs[k] = x := ⟨_, rfl⟩
        obtain ⟨y, hy⟩ : ∃ y, ys[k] = y := ⟨_, rfl⟩
        rw [hx] at c1 c2
        rw [hy] at c3 c4
        have i0 : (0 : Int) ≤ (k : Int) := by omega
        have i1 : (k : Int) < (xs.length : Int) := by omega
        have i2 : (k : Int) < (ys.length : Int) := by omega
        have hNE := neFld (bs x.1) (bs x.2) (bs y.1) (bs y.2)
        have HXY := Lib.hid (And.intro hx hy)
        clear hx hy hd
        by_cases he : x = y
        · rw [fld_same he] at hNE
          have HN : Hid (xs.take (k + 1) = ys.take (k + 1)) := take_succ_eq hlt hlt2 HT.out (by rw [HXY.out.1, HXY.out.2, he])
          clear he
          go_wp2_with fail
          go_quiet (fail)
          go_wp2_with fail
          exact ⟨⟨k + 1, _, by go_num, by omega, HN, rfl⟩, by simp [intOf]; omega⟩
        · rw [fld_other he] at hNE
          have hres : R = false := by
            rw [← HR.out, decide_eq_false_iff_not]
            intro e
            subst e
            exact he (HXY.out.1.symm.trans HXY.out.2)
          subst hres
          clear he
          go_wp2_with fail
          go_quiet (fail)
          go_wp2_with fail
          go_ret
          exact ⟨rfl, _, World.drewN_drewN _ _ _⟩
      · have hkl : k = xs.length := by omega
        subst hkl
        have hd : decide ((xs.length : Int) < (xs.length : Int)) = false := by simp
        have hres : R = true := by
          rw [← HR.out, decide_eq_true_iff]
          have := HT.out
          rw [List.take_length, HL.out, List.take_length] at this
          exact this
        subst hres
        go_wp2_with fail
        go_ret
        exact ⟨rfl, _, rfl⟩
  · have hd : ((xs.length : Int) != (ys.length : Int)) = true := by rw [bne_iff_ne]; omega
    rw [decide_eq_false (fun e => hl (by rw [e]))] at hR
    subst hR
    clear hr ht hl
    go_enter Tryz.func12, Tryz.ntmps12
    go_wp2_with fail
    go_ret
    exact ⟨rfl, 0, rfl⟩

theorem OwnFields_any (A : Option Addr) (n c : Nat) (xs : List Fld) (w : World) (hr : Reads w w.heap.size 2 A n (fldsC xs)) (hn : n ≤ 1000000) :
    Calls Tryz.prog 20 #[.slice A n c] w fun e w' => ∃ B d, e = .returned (.slice B n d) ∧ n ≤ d ∧ Reads w' w'.heap.size 2 B n (fldsC xs) ∧ Below w.heap.size w w' := by
  obtain ⟨i0, hi, hz0, hz1, hz2⟩ := info_parts infoFldA
  have hown := World.ownsRow_made (base := w.heap.size) (e := 49) (size := 2) w #[] 0 (Nat.le_refl _) (Nat.zero_le _) rfl
  have hr2 := hr.alloc (Nat.le_refl _) (.cells #[] 49)
  have HO := Lib.hid hown
  have HR := Lib.hid hr2
  have HI := Lib.hid (And.intro hi (And.intro hz0 (And.intro hz1 hz2)))
  clear hi hz0 hz1 hz2 hown hr2
  obtain ⟨i1, i2, i3, i4⟩ := HI.out
  have hb1 : (0 + n) ≤ maxLen := by unfold maxLen; omega
  have hb2 : (0 + n) * 32 ≤ 140737488355328 := by omega
  have hrun := run_append_any (P := Tryz.prog) (w.alloc (.cells #[] 49)) w.heap.size 25 25 49 i0 (.agg #[.string .empty, .string .empty]) 2 32 Tryz.underlying25 i1 i2 i3 i4 rfl (by decide) _ 0 [] HO.out w.heap.size A n c (fldsC xs) HR.out (fldsC_one xs) hb1 hb2 (by simp)
  obtain ⟨v', w', hrun, ho, hg, hor⟩ := hrun
  rw [List.nil_append, Nat.zero_add] at ho
  obtain ⟨B, d, rfl⟩ := own_slice ho
  have hnd : n ≤ d := own_capA ho
  have HRUN := Lib.hid hrun
  have HF := Lib.hid (And.intro ho hg)
  clear hrun ho hg hor i1 i2 i3 i4 hb1 hb2 hr
  go_enter Tryz.func20, Tryz.ntmps20
  go_wp2_with (at_builtin; refine wpList_append_run HRUN.out rfl _ _ rfl rfl rfl rfl ?_)
  go_ret
  refine ⟨B, d, rfl, hnd, Reads.of_own HF.out.1, ?_⟩
  exact ((Below.refl _ w).alloc (Nat.le_refl _) _).grown HF.out.2 (by simp) (own_ge HO.out)

/-- the bounds of the statements -/
def smallF (f : Fld) : Prop := f.1.length ≤ 100 ∧ f.2.length ≤ 700
def LargePost (l : List Fld) (w : World) (e : Ending) (w' : World) : Prop := ∃ r : Bool, e = .returned (.bool r) ∧ w = w' ∧ (r = false → l.length ≤ 40 ∧ ∀ f ∈ l, smallF f)
end

section
open Go.RowKit

/-- a field in the place of the first with its name, and the others with its name away -/
def putL (x : Fld) : Bool → List Fld → List Fld
  | _, [] => []
  | d, f :: l => if sameN x.1 f then (if d then putL x true l else x :: putL x true l) else f :: putL x d l
theorem putL_app (x : Fld) (d : Bool) (l : List Fld) (f : Fld) : putL x d (l ++ [f]) = putL x d l ++ (if sameN x.1 f then (if d || l.any (sameN x.1) then [] else [x]) else [f]) := by
  induction l generalizing d with
  | nil => simp [putL]
  | cons g l ih =>
    rw [List.cons_append, putL, putL, ih, ih, List.any_cons]
    by_cases hg : sameN x.1 g = true
    · rw [if_pos hg, if_pos hg, hg, Bool.true_or, Bool.or_true]
      cases d <;> simp
    · have hg' : sameN x.1 g = false := by simpa using hg
      rw [hg', Bool.false_or]
      simp
theorem putL_len (x : Fld) (d : Bool) (l : List Fld) : (putL x d l).length ≤ l.length := by
  induction l generalizing d with
  | nil => simp [putL]
  | cons g l ih =>
    rw [putL]
    have := ih true
    have := ih d
    split
    · split <;> simp <;> omega
    · simp; omega
theorem namedL_first {nm : List UInt8} {j : Nat} {l : List Fld} {a0 : Nat} {r : List Nat} (h : namedL nm j l = a0 :: r) : ∃ i, ∃ hi : i < l.length, a0 = j + i ∧ sameN nm l[i] = true ∧ ∀ m, ∀ hm : m < l.length, m < i → sameN nm l[m] = false := by
  induction l generalizing j with
  | nil => simp [namedL] at h
  | cons f l ih =>
    rw [namedL] at h
    by_cases hs : sameN nm f = true
    · rw [if_pos hs] at h
      injection h with h1 _
      exact ⟨0, by simp, by omega, hs, fun m _ hm => absurd hm (by omega)⟩
    · rw [if_neg hs] at h
      obtain ⟨i, hi, e, h1, h2⟩ := ih h
      refine ⟨i + 1, by simpa using hi, by omega, by simpa using h1, fun m hm hmi => ?_⟩
      cases m with
      | zero => simpa using hs
      | succ m => simpa using h2 m (by simpa using hm) (by omega)
theorem namedL_mem (nm : List UInt8) (j : Nat) (l : List Fld) (k : Nat) (hk : k < l.length) : (j + k) ∈ namedL nm j l ↔ sameN nm l[k] = true := by
  induction l generalizing j k with
  | nil => simp at hk
  | cons f l ih =>
    rw [namedL]
    cases k with
    | zero =>
      rw [Nat.add_zero, List.getElem_cons_zero]
      constructor
      · intro h
        by_cases hs : sameN nm f = true
        · exact hs
        · rw [if_neg hs] at h
          have := (namedL_lt nm (j + 1) l j h).1
          omega
      · intro hs; rw [if_pos hs]; simp
    | succ k =>
      have h := ih (j + 1) k (by simpa using hk)
      rw [show j + 1 + k = j + (k + 1) by omega] at h
      rw [List.getElem_cons_succ, ← h]
      split
      · rw [List.mem_cons]
        exact ⟨fun g => g.elim (fun e => absurd e (by omega)) id, .inr⟩
      · rfl
theorem put_first {x : Fld} {l : List Fld} {a0 : Nat} {r : List Nat} (h : namedL x.1 0 l = a0 :: r) (k : Nat) (hk : k < l.length) (e : k = a0) : sameN x.1 l[k] = true ∧ (l.take k).any (sameN x.1) = false := by
  obtain ⟨i, hi, e1, h1, h2⟩ := namedL_first h
  have : k = i := by omega
  subst this
  refine ⟨h1, ?_⟩
  rw [List.any_eq_false]
  intro f hf
  obtain ⟨m, hm, rfl⟩ := List.getElem_of_mem hf
  rw [List.getElem_take]
  rw [List.length_take] at hm
  rw [h2 m (by omega) (by omega)]
  simp
theorem put_later {x : Fld} {l : List Fld} {a0 : Nat} {r : List Nat} (h : namedL x.1 0 l = a0 :: r) (k : Nat) (hk : k < l.length) (e : k ≠ a0) (hs : sameN x.1 l[k] = true) : (l.take k).any (sameN x.1) = true := by
  obtain ⟨i, hi, e1, h1, h2⟩ := namedL_first h
  have hik : i < k := by
    rcases Nat.lt_or_ge i k with g | g
    · exact g
    · have : k < i := by omega
      have := h2 k hk this
      rw [hs] at this
      simp at this
  rw [List.any_eq_true]
  refine ⟨l[i], ?_, h1⟩
  rw [← List.getElem_take (i := i) (j := k) (h := by rw [List.length_take]; omega)]
  exact List.getElem_mem _

/-- a list of fields handed back, and an error -/
def FldsPost (xs : List Fld) (E : Nat) (w : World) (e : Ending) (w' : World) : Prop := ∃ A cap, e = .returned (.tuple #[.slice A xs.length cap, .int .i64 E]) ∧ xs.length ≤ cap ∧ Reads w' w'.heap.size 2 A xs.length (fldsC xs) ∧ Below w.heap.size w w'

end

section
open Go.RowKit


def layW_ren : Go.Shelf.Ren := ⟨fun | 166 => 38 | 240 => 64 | 276 => 96 | n => n, fun | 0 => 0 | 3 => 3 | 4 => 4 | 9 => 9 | 20 => 20 | 37 => 50 | 70 => 85 | 72 => 87 | 75 => 89 | 164 => 155 | 5 => 5 | 80 => 93 | n => n, fun | n => n⟩
theorem layW : Go.Proofs.Lays.n166 Tryz.prog layW_ren := {
  mixed := by kernel_rfl
  f166 := Tryz.func38.trans (congrArg some (by kernel_rfl))
  f240 := Tryz.func64.trans (congrArg some (by kernel_rfl))
  f276 := Tryz.func96.trans (congrArg some (by kernel_rfl))
  t0 := Tryz.underlying0
  a0 := Tryz.isAgg0
  z0 := Tryz.sizeOf0
  v0 := Tryz.zeroValue0
  t3 := Tryz.underlying3
  a3 := Tryz.isAgg3
  z3 := Tryz.sizeOf3
  v3 := Tryz.zeroValue3
  t4 := Tryz.underlying4
  a4 := Tryz.isAgg4
  z4 := Tryz.sizeOf4
  v4 := Tryz.zeroValue4
  t9 := Tryz.underlying9
  a9 := Tryz.isAgg9
  z9 := Tryz.sizeOf9
  v9 := Tryz.zeroValue9
  t20 := Tryz.underlying20
  a20 := Tryz.isAgg20
  z20 := Tryz.sizeOf20
  v20 := Tryz.zeroValue20
  t37 := Tryz.underlying50
  a37 := Tryz.isAgg50
  z37 := Tryz.sizeOf50
  v37 := Tryz.zeroValue50
  t70 := Tryz.underlying85
  a70 := Tryz.isAgg85
  z70 := Tryz.sizeOf85
  v70 := Tryz.zeroValue85
  t72 := Tryz.underlying87
  a72 := Tryz.isAgg87
  z72 := Tryz.sizeOf87
  v72 := Tryz.zeroValue87
  t75 := Tryz.underlying89
  a75 := Tryz.isAgg89
  z75 := Tryz.sizeOf89
  v75 := Tryz.zeroValue89
  t164 := Tryz.underlying155
  a164 := Tryz.isAgg155
  z164 := Tryz.sizeOf155
  v164 := Tryz.zeroValue155 }
theorem layW_extra : Builder.Extra Tryz.prog layW_ren := {
  sizeBuilder := by kernel_rfl
  liesBuilder := by kernel_rfl
  t5 := Tryz.underlying5
  a5 := Tryz.isAgg5
  z5 := Tryz.sizeOf5
  v5 := Tryz.zeroValue5
  infoByte := by kernel_rfl
  cellsByte := by kernel_rfl
  sizeByte := by kernel_rfl
  neB5 := by decide }
theorem builderAt_below {T e : TypeId} {B b : Nat} {p : Value} {cs : List Value} {W W' : World} (h : Lib.BuilderAt T e B b p cs W) (hb : Below W.heap.size W W') : Lib.BuilderAt T e B b p cs W' := by
  obtain ⟨h1, v, h2, h3, h4⟩ := h
  have hlt : b < W.heap.size := by
    rcases Nat.lt_or_ge b W.heap.size with h' | h'
    · exact h'
    · simp [Array.getElem?_eq_none h'] at h2
  exact ⟨h1, v, (hb.block b hlt).trans h2, own_below h3 hb, h4⟩
theorem builder_below {T e : TypeId} {B b : Nat} {cs : List Value} {W W' : World} (h : Lib.IsBuilder T e B b cs W) (hb : Below W.heap.size W W') : Lib.IsBuilder T e B b cs W' :=
  h.elim (fun x => .inl (builderAt_below x hb)) (fun x => .inr (builderAt_below x hb))
theorem WriteString_any (B b : Nat) (l : List UInt8) (s : ByteArray) (w : World) (h : Lib.IsBuilder 87 5 B b (Lib.byteCells l) w) (hlen : l.length + s.size ≤ 1000000) (hBw : B ≤ w.heap.size) :
    Calls Tryz.prog 38 #[.pointer (some ⟨b, 0, none⟩), .string s] w fun e w' => e = .returned (.tuple #[.int .i64 s.size, .nilIface]) ∧ Lib.IsBuilder 87 5 B b (Lib.byteCells (l ++ s.data.toList)) w' ∧ Below B w w' :=
  (Any.Builder_WriteString layW layW_extra B b (Lib.byteCells l) s w h (by simp [Lib.byteCells]; omega) hBw).mono fun e w' ⟨he, h1, h2⟩ => ⟨he, .inr (by
    have e1 : Lib.byteCells (l ++ s.data.toList) = Lib.byteCells l ++ Lib.strCells s := by simp [Lib.byteCells, Lib.strCells]
    rw [e1]; exact h1), h2⟩
end

section
open Go.RowKit

def textL (l : List Fld) : List UInt8 := l.flatMap fun f => lineL f ++ [13, 10]
theorem textL_app (l : List Fld) (f : Fld) : textL (l ++ [f]) = textL l ++ lineL f ++ [13, 10] := by simp [textL]
theorem textL_len (l : List Fld) (h : ∀ f ∈ l, oneL f = 0) : (textL l).length ≤ l.length * 516 := by
  unfold textL
  induction l with
  | nil => simp
  | cons f l ih =>
    have h1 := oneL_len (h f (by simp))
    have h2 := lineL_len f
    have := ih fun g hg => h g (by simp [hg])
    rw [List.flatMap_cons, List.length_append, List.length_append, List.length_cons]
    simp only [List.length_cons, List.length_nil]
    omega

set_option maxRecDepth 100000 in
set_option maxHeartbeats 8000000 in
theorem pText (A : Option Addr) (n c : Nat) (l : List Fld) (w : World) (hr : Reads w w.heap.size 2 A n (fldsC l)) (hn : n ≤ 100000) (hl : fldsOk l) (he : askL l [] = 0) :
    Calls Tryz.prog 23 #[.slice A n c] w fun e w' => e = .returned (.tuple #[.string (bs (textL l)), .int .i64 0]) ∧ Below w.heap.size w w' := by
  obtain rfl := hr.flen
  have cA := pask A none l.length c 0 0 l [] w hr Reads.none_ hn (by omega) hl (by simp)
  rw [he, if_pos rfl] at cA
  obtain ⟨hn32, hall⟩ := askL_fields he
  have CA := Lib.hid cA
  have HR := Lib.hid hr
  have HL := Lib.hid hall
  have CL := Lib.hid pline
  have e1 : (((0 : Nat) : Int) != 0) = false := rfl
  clear cA hr hl he hall
  go_enter Tryz.func23, Tryz.ntmps23
  go_wp2_with fail
  (with_reducible refine (CA.out).mono ?_); rintro e w1 ⟨rfl, g1⟩
  obtain ⟨W1, hW1⟩ : ∃ W1, w1.alloc (.cells #[.slice A l.length c, .slice none 0 0] 82) = W1 := ⟨_, rfl⟩
  have hb1 : Below w.heap.size w W1 := by rw [← hW1]; exact g1.alloc g1.size _
  have hs1 : W1.heap.size = w1.heap.size + 1 := by rw [← hW1]; simp
  have hI : Lib.IsBuilder 87 5 w.heap.size W1.heap.size (Lib.byteCells (textL [])) (W1.alloc (.cells #[.pointer none, .slice none 0 0] 87)) :=
    .inl ⟨hb1.size, .slice none 0 0, heap_alloc_new W1 _, World.ownsRow_nil _ _ _ _, by simp [Value.ownBlock]⟩
  rw [hs1] at hI
  subst hW1
  have HI := Lib.hid hI
  have hb2 := hb1.alloc hb1.size (.cells #[.pointer none, .slice none 0 0] 87)
  clear hI hs1 hb1 g1
  go_wp2_with fail
  go_loopw [19] (fun i wr => ∃ k : Nat, i = .int .i64 k ∧ k ≤ l.length ∧ Hid (Lib.IsBuilder 87 5 w.heap.size (w1.heap.size + 1) (Lib.byteCells (textL (l.take k))) wr) ∧ Below w.heap.size w wr) (fun i _ => l.length - (intOf i).toNat)
  case atStart => exact ⟨0, rfl, by omega, HI, hb2⟩
  case round =>
    obtain ⟨k, rfl, hk, HO, hb⟩ := hrel
    rename World => W0
    have hT := textL_len (l.take k) (fun f hf => HL.out f (List.mem_of_mem_take hf))
    rw [List.length_take] at hT
    by_cases hlt : k < l.length
    · obtain ⟨b, o, rfl, hbl, q0, q1⟩ := HR.out.fld k hlt
      have c0 := (hb.cell (p := ⟨b, o + k * 2, none⟩) hbl).trans q0
      have c1 := (hb.cell (p := ⟨b, o + k * 2 + 1, none⟩) hbl).trans q1
      obtain ⟨f, hf⟩ : ∃ f, l[k] = f := ⟨_, rfl⟩
      have hof := oneL_len (HL.out l[k] (List.getElem_mem hlt))
      rw [hf] at c0 c1 hof
      have htk := take_snoc_of hlt hf
      have hTA := textL_app (l.take k) f
      rw [← htk] at hTA
      have g5 : Below W0.heap.size W0 (W0.alloc (.cells #[.string (bs f.1), .string (bs f.2)] 49)) := (Below.refl _ _).alloc (Nat.le_refl _) _
      have hb5 := hb.trans (g5.mono hb.size)
      have HO5 := Lib.hid (builder_below HO.out g5)
      have cL := fun w => CL.out f w (by omega) (by omega)
      unfold fldV at cL
      have CL' := Lib.hid cL
      have hll := lineL_len f
      have HTA := Lib.hid hTA
      clear q0 q1 hf htk g5 cL hTA
      go_wp2_with fail
      (with_reducible refine (CL'.out _).mono ?_); rintro e w6 ⟨rfl, g6⟩
      have hb6 := hb5.trans (g6.mono hb5.size)
      have CW := Lib.hid (WriteString_any w.heap.size (w1.heap.size + 1) (textL (l.take k)) (bs (lineL f)) w6 (builder_below HO5.out g6) (by rw [bs_size]; omega) hb6.size)
      clear g6 hb5
      go_wp2_with fail
      (with_reducible refine (CW.out).mono ?_); rintro e w7 ⟨rfl, hI7, g7⟩
      have hb7 := hb6.trans g7
      have CW2 := Lib.hid (WriteString_any w.heap.size (w1.heap.size + 1) (textL (l.take k) ++ lineL f) ⟨#[13, 10]⟩ w7 hI7 (by rw [List.length_append]; show _ + 2 ≤ _; omega) hb7.size)
      clear hI7 g7 hb6
      go_wp2_with fail
      (with_reducible refine (CW2.out).mono ?_); rintro e w8 ⟨rfl, hI8, g8⟩
      have hb8 := hb7.trans g8
      have HO' : Hid (Lib.IsBuilder 87 5 w.heap.size (w1.heap.size + 1) (Lib.byteCells (textL (l.take (k + 1)))) w8) := by
        show Lib.IsBuilder _ _ _ _ _ _
        rw [HTA.out]; exact hI8
      clear hI8 g8 hb7
      go_wp2_with fail
      go_roundw
      case rel => exact ⟨k + 1, by go_num, by omega, HO', hb8⟩
      case measure => simp [intOf]; omega
    · have hkl : k = l.length := by omega
      subst hkl
      have hd2 : decide ((l.length : Int) < (l.length : Int)) = false := by simp
      have ho := HO.out
      rw [List.take_length] at ho
      have CS := Lib.hid (Tryz.Builder_String_any w.heap.size (w1.heap.size + 1) (textL l) W0 ho hb.size)
      clear ho
      go_wp2_with fail
      (with_reducible refine (CS.out).mono ?_); rintro e w6 ⟨rfl, g6⟩
      go_wp2_with fail
      go_ret2
      exact ⟨rfl, hb.trans g6⟩
end

section
open Go.RowKit

theorem reads_newF (w : World) (t : TypeId) (xs : List Fld) (cs : Array Value) (h : cs.toList = fldsC xs) : Reads (w.alloc (.cells cs t)) (w.alloc (.cells cs t)).heap.size 2 (some ⟨w.heap.size, 0, none⟩) xs.length (fldsC xs) := by
  refine ⟨by rw [fldsC_len], fun _ => ⟨_, rfl, by simp, fun j u hu => ?_⟩⟩
  rw [Addr.add_lit, Nat.zero_add, (Blk.new w t cs).cell j]
  rw [← h] at hu
  simpa using hu
theorem lawInt : Go.Maps.Keyed Tryz.prog 3 := Maps.int_keyed Tryz.underlying3
end

section
open Go.RowKit

theorem blkA {t : TypeId} {cs : Array Value} (X : World) {g : Nat} (h : X.heap.size = g) : Blk (X.alloc (.cells cs t)) g t cs := h ▸ Blk.new X t cs
def readL (s : List UInt8) : Fld × Nat :=
  if 512 < s.length then (([], []), 4) else if (colT s).2.2 ≠ 0 then (([], []), (colT s).2.2) else if 512 < (lineL ((colT s).1, (colT s).2.1)).length then (([], []), 4) else (((colT s).1, (colT s).2.1), 0)
theorem colT_len (s : List UInt8) : (colT s).1.length ≤ s.length ∧ (colT s).2.1.length ≤ s.length := by
  have h := cutB_len 58 s
  obtain ⟨n, v, f, hX, hcol⟩ : ∃ n v f, cutB 58 s = (n, v, f) ∧ colT s = if (f && isTok n && isVal (trimL v)) = true then (n, trimL v, 0) else ([], [], 3) := ⟨_, _, _, rfl, rfl⟩
  rw [hX] at h
  simp only at h
  rw [hcol]
  have ht : (trimL v).length ≤ v.length := trimL_le v
  split
  · simp only; omega
  · simp

set_option maxRecDepth 100000 in
set_option maxHeartbeats 4000000 in
theorem pRead (s : ByteArray) (w : World) (hs : s.size ≤ 1000000) :
    Calls Tryz.prog 80 #[.string s] w fun e w' => e = .returned (.tuple #[.agg #[.string (bs (readL s.data.toList).1.1), .string (bs (readL s.data.toList).1.2)], .int .i64 (readL s.data.toList).2]) ∧ Below w.heap.size w w' := by
  have hz := size_l s
  by_cases h0 : 512 < s.size
  · have hR : readL s.data.toList = (([], []), 4) := by unfold readL; rw [if_pos (by omega)]
    rw [hR]
    have d1 : decide ((512 : Int) < (s.size : Int)) = true := by simp; omega
    clear hR hz
    go_enter Tryz.func80, Tryz.ntmps80
    go_wp2_with fail
    refine bodyPost_ret (results_cell_row_tmp (p := 2) (u := 3) (ty := 49) (by kernel_rfl) _ _ w.heap.size 49 #[.string (bs []), .string (bs [])] (0, 0) _ rfl (Blk.new w _ _) Tryz.underlying49 rfl (by kernel_rfl)) rfl ?_
    exact ⟨rfl, (Below.refl w.heap.size w).alloc (Nat.le_refl _) _⟩
  · have d1 : decide ((512 : Int) < (s.size : Int)) = false := by simp; omega
    have cC := fun w => TColon_any s w hs
    have hcl := colT_len s.data.toList
    obtain ⟨⟨n, v, e⟩, hC⟩ : ∃ y, colT s.data.toList = y := ⟨_, rfl⟩
    rw [hC] at cC hcl
    simp only at cC hcl
    have CC := Lib.hid cC
    obtain ⟨W1, hW1⟩ : ∃ W1, w.alloc (.cells #[.string ⟨#[]⟩, .string ⟨#[]⟩] 49) = W1 := ⟨_, rfl⟩
    have hB1 : Blk W1 w.heap.size 49 #[.string ⟨#[]⟩, .string ⟨#[]⟩] := by rw [← hW1]; exact Blk.new _ _ _
    have hb1 : Below w.heap.size w W1 := by rw [← hW1]; exact (Below.refl _ _).alloc (Nat.le_refl _) _
    have HB1 := Lib.hid (And.intro hB1 hb1)
    clear cC hB1 hb1
    subst hW1
    by_cases he : e = 0
    · subst he
      have e1 : (((0 : Nat) : Int) != 0) = false := rfl
      have cL := fun w => pline (n, v) w (by simp only; omega) (by simp only; omega)
      unfold fldV at cL
      simp only at cL
      have hll := bs_size (lineL (n, v))
      obtain ⟨L, hL⟩ : ∃ L, bs (lineL (n, v)) = L := ⟨_, rfl⟩
      rw [hL] at cL hll
      have CL := Lib.hid cL
      have hsz : s.data.toList.length ≤ 512 := by omega
      have HC := Lib.hid (And.intro hC (And.intro hll hsz))
      clear cL hL hcl hC hll hsz hz
      by_cases hg : 512 < L.size
      · have d2 : decide ((512 : Int) < (L.size : Int)) = true := by simp; omega
        have hR : readL s.data.toList = (([], []), 4) := by
          obtain ⟨hC, hll, hsz⟩ := HC.out
          unfold readL
          rw [if_neg (by omega), hC, if_neg (by simp), if_pos (by simp only; omega)]
        rw [hR]
        clear hR HC
        go_enter Tryz.func80, Tryz.ntmps80
        go_wp2_with fail
        (with_reducible refine (CC.out _).mono ?_); rintro e w2 ⟨rfl, g2⟩
        have hB2 := HB1.out.1.below g2 HB1.out.1.lt
        have hb2 := HB1.out.2.trans (g2.mono HB1.out.2.size)
        have HB2 := Lib.hid (And.intro hB2 hb2)
        clear hB2 hb2 g2
        go_wp2_with fail
        (with_reducible refine (CL.out _).mono ?_); rintro e w3 ⟨rfl, g3⟩
        have hB3 := (HB2.out.1.alloc (.cells #[.string (bs n), .string (bs v)] 49)).below g3 (HB2.out.1.alloc _).lt
        have h2a := HB2.out.2.alloc HB2.out.2.size (.cells #[.string (bs n), .string (bs v)] 49)
        have hb3 := h2a.trans (g3.mono h2a.size)
        have y0 := hB3.cell 0
        have y1 := hB3.cell 1
        have f0 := hB3.frozen 0
        have f1 := hB3.frozen 1
        have HB3 := Lib.hid (And.intro hB3 hb3)
        clear hB3 hb3 g3 h2a
        go_wp2_with fail
        refine bodyPost_ret (results_cell_row_tmp (p := 2) (u := 3) (ty := 49) (by kernel_rfl) _ _ w.heap.size 49 #[.string (bs []), .string (bs [])] (0, 0) _ rfl ((HB3.out.1.set_ 0 _).set_ 1 _) Tryz.underlying49 rfl (by kernel_rfl)) rfl ?_
        exact ⟨rfl, (HB3.out.2.setCell (p := ⟨w.heap.size, 0, none⟩) (Nat.le_refl _) _).setCell (p := ⟨w.heap.size, 1, none⟩) (Nat.le_refl _) _⟩
      · have d2 : decide ((512 : Int) < (L.size : Int)) = false := by simp; omega
        have hR : readL s.data.toList = ((n, v), 0) := by
          obtain ⟨hC, hll, hsz⟩ := HC.out
          unfold readL
          rw [if_neg (by omega), hC, if_neg (by simp), if_neg (by simp only; omega)]
        rw [hR]
        clear hR HC
        go_enter Tryz.func80, Tryz.ntmps80
        go_wp2_with fail
        (with_reducible refine (CC.out _).mono ?_); rintro e w2 ⟨rfl, g2⟩
        have hB2 := HB1.out.1.below g2 HB1.out.1.lt
        have hb2 := HB1.out.2.trans (g2.mono HB1.out.2.size)
        have HB2 := Lib.hid (And.intro hB2 hb2)
        clear hB2 hb2 g2
        go_wp2_with fail
        (with_reducible refine (CL.out _).mono ?_); rintro e w3 ⟨rfl, g3⟩
        have hB3 := (HB2.out.1.alloc (.cells #[.string (bs n), .string (bs v)] 49)).below g3 (HB2.out.1.alloc _).lt
        have hF3 := (Blk.new w2 49 #[.string (bs n), .string (bs v)]).below g3 (Blk.new w2 49 #[.string (bs n), .string (bs v)]).lt
        have h2a := HB2.out.2.alloc HB2.out.2.size (.cells #[.string (bs n), .string (bs v)] 49)
        have hb3 := h2a.trans (g3.mono h2a.size)
        have y0 := hB3.cell 0
        have y1 := hB3.cell 1
        have f0 := hB3.frozen 0
        have f1 := hB3.frozen 1
        have z0 : w3.cell? ⟨w2.heap.size, 0, none⟩ = some (.string (bs n)) := hF3.cell 0
        have z1 : w3.cell? ⟨w2.heap.size, 1, none⟩ = some (.string (bs v)) := hF3.cell 1
        have n1 : w2.heap.size ≠ w.heap.size := by have := HB2.out.1.lt; omega
        have HB3 := Lib.hid (And.intro hB3 hb3)
        clear hB3 hb3 g3 h2a hF3
        go_wp2_with fail
        refine bodyPost_ret (results_cell_row_tmp (p := 2) (u := 3) (ty := 49) (by kernel_rfl) _ _ w.heap.size 49 #[.string (bs n), .string (bs v)] (0, 0) _ rfl ((HB3.out.1.set_ 0 _).set_ 1 _) Tryz.underlying49 rfl (by kernel_rfl)) rfl ?_
        exact ⟨rfl, (HB3.out.2.setCell (p := ⟨w.heap.size, 0, none⟩) (Nat.le_refl _) _).setCell (p := ⟨w.heap.size, 1, none⟩) (Nat.le_refl _) _⟩
    · have e1 : ((e : Int) != 0) = true := by rw [bne_iff_ne]; omega
      have hR : readL s.data.toList = (([], []), e) := by
        unfold readL
        rw [if_neg (by omega), hC, if_pos he]
      rw [hR]
      clear hR hC hcl
      go_enter Tryz.func80, Tryz.ntmps80
      go_wp2_with fail
      (with_reducible refine (CC.out _).mono ?_); rintro e w2 ⟨rfl, g2⟩
      have hB2 := HB1.out.1.below g2 HB1.out.1.lt
      have hb2 := HB1.out.2.trans (g2.mono HB1.out.2.size)
      have y0 := hB2.cell 0
      have y1 := hB2.cell 1
      have f0 := hB2.frozen 0
      have f1 := hB2.frozen 1
      have HB2 := Lib.hid (And.intro hB2 hb2)
      clear hB2 hb2 g2
      go_wp2_with fail
      refine bodyPost_ret (results_cell_row_tmp (p := 2) (u := 3) (ty := 49) (by kernel_rfl) _ _ w.heap.size 49 #[.string (bs []), .string (bs [])] (0, 0) _ rfl ((HB2.out.1.set_ 0 _).set_ 1 _) Tryz.underlying49 rfl (by kernel_rfl)) rfl ?_
      exact ⟨rfl, (HB2.out.2.setCell (p := ⟨w.heap.size, 0, none⟩) (Nat.le_refl _) _).setCell (p := ⟨w.heap.size, 1, none⟩) (Nat.le_refl _) _⟩
end
end Go.Proofs.YtencphfhpnljlaaGreatDoor
