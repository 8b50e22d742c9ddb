/-
  The first error of a list of fields, of the program and of the reference.
-/
import Derived.Test.YtpdohlnobbimaaaDoorFd1
namespace Go.Proofs.YtpdohlnobbimaaaDoor
open Go.RowKit

def fldsOk (l : List Fld) : Prop := ∀ f ∈ l, f.1.length ≤ 100000 ∧ f.2.length ≤ 100000

set_option maxRecDepth 100000 in
set_option maxHeartbeats 4000000 in
theorem pCheckF (A : Option Addr) (n c : Nat) (l : List Fld) (w : World) (hr : Reads w w.heap.size 2 A n (fldsC l)) (hn : n ≤ 1000000) (hl : fldsOk l) :
    Calls Tryd.prog 78 #[.slice A n c] w fun e w' => e = .returned (.tuple #[.int .i64 (checkL l).1, .int .i64 (checkL l).2]) ∧ Below w.heap.size w w' := by
  obtain rfl := hr.flen
  obtain ⟨X, hX⟩ : ∃ X, checkL l = X := ⟨_, rfl⟩
  rw [hX]
  unfold checkL at hX
  by_cases h32 : 32 < l.length
  · have hd : decide ((32 : Int) < (l.length : Int)) = true := by simp; omega
    rw [if_pos h32] at hX
    subst hX
    clear hr hl
    go_enter Tryd.func78, Tryd.ntmps78
    go_wp2_with fail
    go_ret2
    exact ⟨rfl, Below.refl _ _⟩
  · have hd : decide ((32 : Int) < (l.length : Int)) = false := by simp; omega
    rw [if_neg h32] at hX
    have HX := Lib.hid hX
    have HR := Lib.hid hr
    have HL := Lib.hid hl
    clear hX hr hl
    go_enter Tryd.func78, Tryd.ntmps78
    go_wp2_with fail
    go_loopw [12] (fun i wr => ∃ k : Nat, i = .int .i64 k ∧ k ≤ l.length ∧ Hid (∀ f ∈ l.take k, oneL f = 0) ∧ Below w.heap.size w wr) (fun i _ => l.length - (intOf i).toNat)
    case atStart => exact ⟨0, rfl, by omega, hide (by simp), Below.refl _ _⟩
    case round =>
      obtain ⟨k, rfl, hk, HT, hb⟩ := hrel
      rename World => W0
      by_cases hlt : k < l.length
      · obtain ⟨b, o, rfl, hbl, q0, q1⟩ := HR.out.fld k hlt
        have c0 := (hb.cell (p := ⟨b, o + k * 2, none⟩) hbl).trans q0
        have c1 := (hb.cell (p := ⟨b, o + k * 2 + 1, none⟩) hbl).trans q1
        obtain ⟨f, hf⟩ : ∃ f, l[k] = f := ⟨_, rfl⟩
        have hok := HL.out l[k] (List.getElem_mem hlt)
        rw [hf] at c0 c1 hok
        have cO := fun w => pone f w hok.1 hok.2
        obtain ⟨E, hE⟩ : ∃ E, oneL f = E := ⟨_, rfl⟩
        rw [hE] at cO
        unfold fldV at cO
        have CO := Lib.hid cO
        have HF := Lib.hid (And.intro hf hE)
        clear q0 q1 cO hf hE hok
        by_cases he : E = 0
        · subst he
          have e1 : (((0 : Nat) : Int) != 0) = false := rfl
          have HT' : Hid (∀ f ∈ l.take (k + 1), oneL f = 0) := by
            rw [List.take_succ_eq_append_getElem hlt]
            intro y hy
            rcases List.mem_append.1 hy with hy | hy
            · exact HT.out y hy
            · rw [List.mem_singleton.1 hy, HF.out.1]; exact HF.out.2
          go_wp2_with fail
          (with_reducible refine (CO.out _).mono ?_); rintro e w1 ⟨rfl, hb1⟩
          have hbX := (hb.alloc hb.size _).trans (hb1.mono (by have := hb.size; simp; omega))
          go_wp2_with fail
          go_roundw
          case rel => exact ⟨k + 1, by go_num, by omega, HT', hbX⟩
          case measure => simp [intOf]; omega
        · have e2 : ((E : Int) != 0) = true := by rw [bne_iff_ne]; omega
          have hX := HX.out
          rw [firstE_at l k hlt HT.out (by rw [HF.out.1, HF.out.2]; exact he), HF.out.1, HF.out.2] at hX
          subst hX
          clear he
          go_wp2_with fail
          (with_reducible refine (CO.out _).mono ?_); rintro e w1 ⟨rfl, hb1⟩
          have hbX := (hb.alloc hb.size _).trans (hb1.mono (by have := hb.size; simp; omega))
          go_wp2_with fail
          go_ret2
          exact ⟨rfl, hbX⟩
      · have hkl : k = l.length := by omega
        subst hkl
        have hd2 : decide ((l.length : Int) < (l.length : Int)) = false := by simp
        have hX := HX.out
        rw [firstE_none l (fun f hf => HT.out f (by rw [List.take_length]; exact hf))] at hX
        subst hX
        go_wp2_with fail
        go_ret2
        exact ⟨rfl, hb⟩

end Go.Proofs.YtpdohlnobbimaaaDoor
