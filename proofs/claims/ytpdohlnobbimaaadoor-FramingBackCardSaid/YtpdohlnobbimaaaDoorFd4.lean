/-
  A list of fields and names asked: which error; of the program (ask) and of the reference (asked).
-/
import Derived.Test.YtpdohlnobbimaaaDoorFd3
import Derived.Test.YtpdohlnobbimaaaDoorKt1
namespace Go.Proofs.YtpdohlnobbimaaaDoor
open Go.RowKit

/-- the error of a list and names -/
def askL (l : List Fld) (ns : List (List UInt8)) : Nat := if (checkL l).1 ≠ 0 then (checkL l).1 else if ns.all isTok = true then 0 else 11
theorem all_of_take {ns : List (List UInt8)} (h : ∀ x ∈ ns.take ns.length, isTok x = true) : ns.all isTok = true := by
  rw [List.take_length] at h; exact List.all_eq_true.2 h
theorem not_all_at {ns : List (List UInt8)} {k : Nat} (hk : k < ns.length) (h : isTok ns[k] = false) : ns.all isTok = false := by
  rw [List.all_eq_false]; exact ⟨ns[k], List.getElem_mem hk, by rw [h]; simp⟩
def AskRel (ns : List (List UInt8)) (e0 k : Nat) : Prop := (e0 = 0 ∧ ∀ x ∈ ns.take k, isTok x = true) ∨ (e0 = 11 ∧ ns.all isTok = false)
def nilAsk : Array Value := #[.slice none 0 0, .slice none 0 0]

set_option maxRecDepth 100000 in
set_option maxHeartbeats 8000000 in
theorem pask (A B : Option Addr) (n c m d : Nat) (l : List Fld) (ns : List (List UInt8)) (w : World) (hr : Reads w w.heap.size 2 A n (fldsC l)) (hs : Reads w w.heap.size 1 B m (strs ns)) (hn : n ≤ 100000) (hm : m ≤ 100000) (hl : fldsOk l) (hx : ∀ x ∈ ns, x.length ≤ 9223372036854775807) :
    Calls Tryd.prog 56 #[.slice A n c, .slice B m d] w fun e w' => e = .returned (.tuple #[.agg (if askL l ns = 0 then #[.slice A n c, .slice B m d] else nilAsk), .int .i64 (askL l ns)]) ∧ Below w.heap.size w w' := by
  obtain rfl := hr.flen
  obtain rfl := hs.len
  obtain ⟨X, hX⟩ : ∃ X, askL l ns = X := ⟨_, rfl⟩
  rw [hX]
  unfold askL at hX
  have cC := fun w hr => pCheckF A l.length c l w hr (by omega) hl
  obtain ⟨⟨E, I⟩, hE⟩ : ∃ x, checkL l = x := ⟨_, rfl⟩
  rw [hE] at cC hX
  simp only at cC hX
  have CC := Lib.hid cC
  have HR := Lib.hid hr
  have HS := Lib.hid hs
  have HXS := Lib.hid hx
  have CI := Lib.hid TIs_any
  have hB0 := Blk.new w 81 nilAsk
  have hr0 := (HR.out.alloc (Nat.le_refl _) (.cells nilAsk 81)).more (show w.heap.size ≤ (w.alloc (.cells nilAsk 81)).heap.size by simp)
  have HB0 := Lib.hid (And.intro hB0 hr0)
  clear cC hE hr hs hl hx hB0 hr0
  unfold nilAsk at HB0
  by_cases he : E = 0
  · subst he
    rw [if_neg (by simp)] at hX
    have HX := Lib.hid hX
    have e1 : (((0 : Nat) : Int) != 0) = false := rfl
    clear hX
    go_enter Tryd.func56, Tryd.ntmps56
    go_wp2_with fail
    (with_reducible refine (CC.out _ HB0.out.2).mono ?_); rintro e w1 ⟨rfl, hb1⟩
    have HB1 := Lib.hid (HB0.out.1.below hb1 HB0.out.1.lt)
    have hW1 : Below w.heap.size w w1 := ((Below.refl _ _).alloc (Nat.le_refl _) _).trans (hb1.mono (by simp))
    clear hb1
    go_wp2_with fail
    go_loopw [21] (fun i wr => ∃ k : Nat, i = .int .i64 k ∧ k ≤ ns.length ∧ Hid (∀ x ∈ ns.take k, isTok x = true) ∧ Hid (Blk wr w.heap.size 81 #[.slice none 0 0, .slice none 0 0]) ∧ Below w.heap.size w wr) (fun i _ => ns.length - (intOf i).toNat)
    case atStart => exact ⟨0, rfl, by omega, hide (by simp), HB1, hW1⟩
    case round =>
      obtain ⟨k, rfl, hk, HT, HB, hb⟩ := hrel
      rename World => W0
      by_cases hlt : k < ns.length
      · obtain ⟨b, o, rfl, hbl, q0⟩ := HS.out.text k hlt
        have c0 := (hb.cell (p := ⟨b, o + k, none⟩) hbl).trans q0
        obtain ⟨x, hxk⟩ : ∃ x, ns[k] = x := ⟨_, rfl⟩
        have hxl := HXS.out ns[k] (List.getElem_mem hlt)
        rw [hxk] at c0 hxl
        have cI := fun w => CI.out (bs x) w (by rw [bs_size]; omega)
        rw [bs_list] at cI
        have HXK := Lib.hid hxk
        clear q0 hxk
        rcases Bool.eq_false_or_eq_true (isTok x) with ht | ht
        · rw [ht] at cI
          have CI' := Lib.hid cI
          have HT' : Hid (∀ x ∈ ns.take (k + 1), isTok x = true) := by
            rw [List.take_succ_eq_append_getElem hlt]
            intro y hy
            rcases List.mem_append.1 hy with hy | hy
            · exact HT.out y hy
            · rw [List.mem_singleton.1 hy, HXK.out]; exact ht
          clear cI ht
          go_wp2_with fail
          (with_reducible refine (CI'.out _).mono ?_); rintro e w2 ⟨rfl, hb2⟩
          have HB2 := Lib.hid (HB.out.below hb2 HB.out.lt)
          have hbX := hb.trans (hb2.mono hb.size)
          clear hb2
          go_wp2_with fail
          go_roundw
          case rel => exact ⟨k + 1, by go_num, by omega, HT', HB2, hbX⟩
          case measure => simp [intOf]; omega
        · rw [ht] at cI
          have CI' := Lib.hid cI
          have hX := HX.out
          rw [not_all_at hlt (by rw [HXK.out]; exact ht), if_neg (by simp)] at hX
          subst hX
          clear cI ht
          go_wp2_with fail
          (with_reducible refine (CI'.out _).mono ?_); rintro e w2 ⟨rfl, hb2⟩
          have hB2 := HB.out.below hb2 HB.out.lt
          have hbX := hb.trans (hb2.mono hb.size)
          have d0 : w2.cell? ⟨w.heap.size, 0, none⟩ = some (.slice none 0 0) := hB2.cell 0
          have d1 : w2.cell? ⟨w.heap.size, 1, none⟩ = some (.slice none 0 0) := hB2.cell 1
          have f0 := hB2.frozen 0
          have f1 := hB2.frozen 1
          have HB2 := Lib.hid hB2
          clear hb2 hB2
          go_wp2_with fail
          refine bodyPost_ret (results_cell_row_tmp (p := 4) (u := 5) (ty := 81) (by kernel_rfl) _ _ w.heap.size 81 nilAsk (0, 0) _ rfl ((HB2.out.set_ 0 _).set_ 1 _) Tryd.underlying81 rfl (by kernel_rfl)) rfl ?_
          exact ⟨rfl, (hbX.setCell (by simp) _).setCell (by simp) _⟩
      · have hkl : k = ns.length := by omega
        subst hkl
        have hd2 : decide ((ns.length : Int) < (ns.length : Int)) = false := by simp
        have hX := HX.out
        rw [all_of_take HT.out, if_pos rfl] at hX
        subst hX
        have hB2 := HB.out
        have d0 : W0.cell? ⟨w.heap.size, 0, none⟩ = some (.slice none 0 0) := hB2.cell 0
        have d1 : W0.cell? ⟨w.heap.size, 1, none⟩ = some (.slice none 0 0) := hB2.cell 1
        have f0 := hB2.frozen 0
        have f1 := hB2.frozen 1
        clear hB2
        go_wp2_with fail
        refine bodyPost_ret (results_cell_row_tmp (p := 4) (u := 5) (ty := 81) (by kernel_rfl) _ _ w.heap.size 81 #[.slice A l.length c, .slice B ns.length d] (0, 0) _ rfl ((HB.out.set_ 0 _).set_ 1 _) Tryd.underlying81 rfl (by kernel_rfl)) rfl ?_
        exact ⟨rfl, (hb.setCell (by simp) _).setCell (by simp) _⟩
  · rw [if_pos he] at hX
    subst hX
    rw [if_neg he]
    have e2 : ((E : Int) != 0) = true := by rw [bne_iff_ne]; omega
    go_enter Tryd.func56, Tryd.ntmps56
    go_wp2_with fail
    (with_reducible refine (CC.out _ HB0.out.2).mono ?_); rintro e w1 ⟨rfl, hb1⟩
    have hB1 := HB0.out.1.below hb1 HB0.out.1.lt
    have hW1 : Below w.heap.size w w1 := ((Below.refl _ _).alloc (Nat.le_refl _) _).trans (hb1.mono (by simp))
    have d0 : w1.cell? ⟨w.heap.size, 0, none⟩ = some (.slice none 0 0) := hB1.cell 0
    have d1 : w1.cell? ⟨w.heap.size, 1, none⟩ = some (.slice none 0 0) := hB1.cell 1
    have f0 := hB1.frozen 0
    have f1 := hB1.frozen 1
    have HB1 := Lib.hid hB1
    clear hb1 hB1
    go_wp2_with fail
    refine bodyPost_ret (results_cell_row_tmp (p := 4) (u := 5) (ty := 81) (by kernel_rfl) _ _ w.heap.size 81 nilAsk (0, 0) _ rfl ((HB1.out.set_ 0 _).set_ 1 _) Tryd.underlying81 rfl (by kernel_rfl)) rfl ?_
    exact ⟨rfl, (hW1.setCell (by simp) _).setCell (by simp) _⟩

end Go.Proofs.YtpdohlnobbimaaaDoor
