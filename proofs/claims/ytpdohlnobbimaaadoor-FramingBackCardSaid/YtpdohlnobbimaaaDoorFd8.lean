/-
  The text of a list of fields: of the program (Text).
-/
import Derived.Test.YtpdohlnobbimaaaDoorFd7
import Derived.Shelf.Strings.Builder2
namespace Go.Proofs.YtpdohlnobbimaaaDoor
open Go.RowKit

theorem builderAt_below {T e : TypeId} {B b : Nat} {p : Value} {cs : List Value} {W W' : World} (h : Lib.BuilderAt T e B b p cs W) (hb : Below W.heap.size W W') : Lib.BuilderAt T e B b p cs W' := by
  obtain ⟨h1, v, h2, h3, h4⟩ := h
  have hlt : b < W.heap.size := by
    rcases Nat.lt_or_ge b W.heap.size with h' | h'
    · exact h'
    · simp [Array.getElem?_eq_none h'] at h2
  exact ⟨h1, v, (hb.block b hlt).trans h2, own_below h3 hb, h4⟩
theorem builder_below {T e : TypeId} {B b : Nat} {cs : List Value} {W W' : World} (h : Lib.IsBuilder T e B b cs W) (hb : Below W.heap.size W W') : Lib.IsBuilder T e B b cs W' :=
  h.elim (fun x => .inl (builderAt_below x hb)) (fun x => .inr (builderAt_below x hb))
theorem WriteString_any (B b : Nat) (l : List UInt8) (s : ByteArray) (w : World) (h : Lib.IsBuilder 113 5 B b (Lib.byteCells l) w) (hlen : l.length + s.size ≤ 1000000) (hBw : B ≤ w.heap.size) :
    Calls Tryd.prog 83 #[.pointer (some ⟨b, 0, none⟩), .string s] w fun e w' => e = .returned (.tuple #[.int .i64 s.size, .nilIface]) ∧ Lib.IsBuilder 113 5 B b (Lib.byteCells (l ++ s.data.toList)) w' ∧ Below B w w' :=
  (Any.Builder_WriteString { Tryd.lays156 with } Tryd.Builder_Extra_156 B b (Lib.byteCells l) s w h (by simp [Lib.byteCells]; omega) hBw).mono fun e w' ⟨he, h1, h2⟩ => ⟨he, .inr (by
    have e1 : Lib.byteCells (l ++ s.data.toList) = Lib.byteCells l ++ Lib.strCells s := by simp [Lib.byteCells, Lib.strCells]
    rw [e1]; exact h1), h2⟩

def textL (l : List Fld) : List UInt8 := l.flatMap fun f => lineL f ++ [13, 10]
theorem textL_app (l : List Fld) (f : Fld) : textL (l ++ [f]) = textL l ++ lineL f ++ [13, 10] := by simp [textL]
theorem textL_len (l : List Fld) (h : ∀ f ∈ l, oneL f = 0) : (textL l).length ≤ l.length * 516 := by
  unfold textL
  induction l with
  | nil => simp
  | cons f l ih =>
    have h1 := oneL_len (h f (by simp))
    have h2 := lineL_len f
    have := ih fun g hg => h g (by simp [hg])
    rw [List.flatMap_cons, List.length_append, List.length_append, List.length_cons]
    simp only [List.length_cons, List.length_nil]
    omega

set_option maxRecDepth 100000 in
set_option maxHeartbeats 8000000 in
theorem pText (A : Option Addr) (n c : Nat) (l : List Fld) (w : World) (hr : Reads w w.heap.size 2 A n (fldsC l)) (hn : n ≤ 100000) (hl : fldsOk l) (he : askL l [] = 0) :
    Calls Tryd.prog 77 #[.slice A n c] w fun e w' => e = .returned (.tuple #[.string (bs (textL l)), .int .i64 0]) ∧ Below w.heap.size w w' := by
  obtain rfl := hr.flen
  have cA := pask A none l.length c 0 0 l [] w hr Reads.none_ hn (by omega) hl (by simp)
  rw [he, if_pos rfl] at cA
  obtain ⟨hn32, hall⟩ := askL_fields he
  have CA := Lib.hid cA
  have HR := Lib.hid hr
  have HL := Lib.hid hall
  have CL := Lib.hid pline
  have e1 : (((0 : Nat) : Int) != 0) = false := rfl
  clear cA hr hl he hall
  go_enter Tryd.func77, Tryd.ntmps77
  go_wp2_with fail
  (with_reducible refine (CA.out).mono ?_); rintro e w1 ⟨rfl, g1⟩
  obtain ⟨W1, hW1⟩ : ∃ W1, w1.alloc (.cells #[.slice A l.length c, .slice none 0 0] 81) = W1 := ⟨_, rfl⟩
  have hb1 : Below w.heap.size w W1 := by rw [← hW1]; exact g1.alloc g1.size _
  have hs1 : W1.heap.size = w1.heap.size + 1 := by rw [← hW1]; simp
  have hI : Lib.IsBuilder 113 5 w.heap.size W1.heap.size (Lib.byteCells (textL [])) (W1.alloc (.cells #[.pointer none, .slice none 0 0] 113)) :=
    .inl ⟨hb1.size, .slice none 0 0, heap_alloc_new W1 _, World.ownsRow_nil _ _ _ _, by simp [Value.ownBlock]⟩
  rw [hs1] at hI
  subst hW1
  have HI := Lib.hid hI
  have hb2 := hb1.alloc hb1.size (.cells #[.pointer none, .slice none 0 0] 113)
  clear hI hs1 hb1 g1
  go_wp2_with fail
  go_loopw [19] (fun i wr => ∃ k : Nat, i = .int .i64 k ∧ k ≤ l.length ∧ Hid (Lib.IsBuilder 113 5 w.heap.size (w1.heap.size + 1) (Lib.byteCells (textL (l.take k))) wr) ∧ Below w.heap.size w wr) (fun i _ => l.length - (intOf i).toNat)
  case atStart => exact ⟨0, rfl, by omega, HI, hb2⟩
  case round =>
    obtain ⟨k, rfl, hk, HO, hb⟩ := hrel
    rename World => W0
    have hT := textL_len (l.take k) (fun f hf => HL.out f (List.mem_of_mem_take hf))
    rw [List.length_take] at hT
    by_cases hlt : k < l.length
    · obtain ⟨b, o, rfl, hbl, q0, q1⟩ := HR.out.fld k hlt
      have c0 := (hb.cell (p := ⟨b, o + k * 2, none⟩) hbl).trans q0
      have c1 := (hb.cell (p := ⟨b, o + k * 2 + 1, none⟩) hbl).trans q1
      obtain ⟨f, hf⟩ : ∃ f, l[k] = f := ⟨_, rfl⟩
      have hof := oneL_len (HL.out l[k] (List.getElem_mem hlt))
      rw [hf] at c0 c1 hof
      have htk := take_snoc_of hlt hf
      have hTA := textL_app (l.take k) f
      rw [← htk] at hTA
      have g5 : Below W0.heap.size W0 (W0.alloc (.cells #[.string (bs f.1), .string (bs f.2)] 36)) := (Below.refl _ _).alloc (Nat.le_refl _) _
      have hb5 := hb.trans (g5.mono hb.size)
      have HO5 := Lib.hid (builder_below HO.out g5)
      have cL := fun w => CL.out f w (by omega) (by omega)
      unfold fldV at cL
      have CL' := Lib.hid cL
      have hll := lineL_len f
      have HTA := Lib.hid hTA
      clear q0 q1 hf htk g5 cL hTA
      go_wp2_with fail
      (with_reducible refine (CL'.out _).mono ?_); rintro e w6 ⟨rfl, g6⟩
      have hb6 := hb5.trans (g6.mono hb5.size)
      have CW := Lib.hid (WriteString_any w.heap.size (w1.heap.size + 1) (textL (l.take k)) (bs (lineL f)) w6 (builder_below HO5.out g6) (by rw [bs_size]; omega) hb6.size)
      clear g6 hb5
      go_wp2_with fail
      (with_reducible refine (CW.out).mono ?_); rintro e w7 ⟨rfl, hI7, g7⟩
      have hb7 := hb6.trans g7
      have CW2 := Lib.hid (WriteString_any w.heap.size (w1.heap.size + 1) (textL (l.take k) ++ lineL f) ⟨#[13, 10]⟩ w7 hI7 (by rw [List.length_append]; show _ + 2 ≤ _; omega) hb7.size)
      clear hI7 g7 hb6
      go_wp2_with fail
      (with_reducible refine (CW2.out).mono ?_); rintro e w8 ⟨rfl, hI8, g8⟩
      have hb8 := hb7.trans g8
      have HO' : Hid (Lib.IsBuilder 113 5 w.heap.size (w1.heap.size + 1) (Lib.byteCells (textL (l.take (k + 1)))) w8) := by
        show Lib.IsBuilder _ _ _ _ _ _
        rw [HTA.out]; exact hI8
      clear hI8 g8 hb7
      go_wp2_with fail
      go_roundw
      case rel => exact ⟨k + 1, by go_num, by omega, HO', hb8⟩
      case measure => simp [intOf]; omega
    · have hkl : k = l.length := by omega
      subst hkl
      have hd2 : decide ((l.length : Int) < (l.length : Int)) = false := by simp
      have ho := HO.out
      rw [List.take_length] at ho
      have CS := Lib.hid (Tryd.Builder_String_any w.heap.size (w1.heap.size + 1) (textL l) W0 ho hb.size)
      clear ho
      go_wp2_with fail
      (with_reducible refine (CS.out).mono ?_); rintro e w6 ⟨rfl, g6⟩
      go_wp2_with fail
      go_ret2
      exact ⟨rfl, hb.trans g6⟩
end Go.Proofs.YtpdohlnobbimaaaDoor
