/-
  The fields with a name: their numbers and their values, of the program and of the reference.
-/
import Derived.Test.YtpdohlnobbimaaaDoorFd2
import Derived.Test.YtpdohlnobbimaaaDoorAp
namespace Go.Proofs.YtpdohlnobbimaaaDoor
open Go.RowKit

def sameN (nm : List UInt8) (f : Fld) : Bool := lowL f.1 == lowL nm
/-- the numbers of the fields with a name -/
def namedL (nm : List UInt8) : Nat → List Fld → List Nat
  | _, [] => []
  | k, f :: l => if sameN nm f then k :: namedL nm (k + 1) l else namedL nm (k + 1) l
theorem namedL_app (nm : List UInt8) (k : Nat) (l : List Fld) (f : Fld) : namedL nm k (l ++ [f]) = namedL nm k l ++ (if sameN nm f then [k + l.length] else []) := by
  induction l generalizing k with
  | nil => simp [namedL]
  | cons g l ih =>
    rw [List.cons_append, namedL, namedL, ih]
    split <;> simp [Nat.add_assoc, Nat.add_comm 1]
theorem namedL_lt (nm : List UInt8) (k : Nat) (l : List Fld) : ∀ i ∈ namedL nm k l, k ≤ i ∧ i < k + l.length := by
  induction l generalizing k with
  | nil => simp [namedL]
  | cons g l ih =>
    intro i hi
    rw [namedL] at hi
    split at hi
    · rcases List.mem_cons.1 hi with rfl | hi
      · simp
      · have := ih (k + 1) i hi; simp; omega
    · have := ih (k + 1) i hi; simp; omega
theorem namedL_len (nm : List UInt8) (k : Nat) (l : List Fld) : (namedL nm k l).length ≤ l.length := by
  induction l generalizing k with
  | nil => simp [namedL]
  | cons g l ih =>
    rw [namedL]
    have := ih (k + 1)
    split <;> simp <;> omega
/-- the values of the fields with a name -/
def valuesL (nm : List UInt8) (l : List Fld) : List (List UInt8) := (l.filter (sameN nm)).map (·.2)
theorem valuesL_app (nm : List UInt8) (l : List Fld) (f : Fld) : valuesL nm (l ++ [f]) = valuesL nm l ++ (if sameN nm f then [f.2] else []) := by
  unfold valuesL
  rw [List.filter_append, List.map_append]
  congr 1
  by_cases h : sameN nm f = true
  · simp [h]
  · simp [h]
theorem valuesL_len (nm : List UInt8) (l : List Fld) : (valuesL nm l).length ≤ l.length := by
  unfold valuesL; rw [List.length_map]; exact List.length_filter_le _ _
theorem values_named (nm : List UInt8) (l : List Fld) : (namedL nm 0 l).map (fun i => (l.getD i ([], [])).2) = valuesL nm l := by
  have h : ∀ (p m : List Fld), (namedL nm p.length m).map (fun i => ((p ++ m).getD i ([], [])).2) = valuesL nm m := by
    intro p m
    induction m generalizing p with
    | nil => rfl
    | cons f m ih =>
      have e := ih (p ++ [f])
      rw [List.length_append, List.append_assoc] at e
      rw [namedL]
      unfold valuesL at e ⊢
      by_cases hs : sameN nm f = true
      · rw [if_pos hs, List.map_cons, List.filter_cons, if_pos hs, List.map_cons]
        congr 1
        · simp
      · rw [if_neg hs, List.filter_cons, if_neg hs]
        exact e
  exact h [] l
theorem take_snoc_of {α : Type} {l : List α} {k : Nat} {f : α} (h : k < l.length) (e : l[k] = f) : l.take (k + 1) = l.take k ++ [f] := by
  rw [List.take_succ_eq_append_getElem h, e]

/-- numbers handed back -/
def IntsPost (xs : List Nat) (w : World) (e : Ending) (w' : World) : Prop := ∃ A cap, e = .returned (.slice A xs.length cap) ∧ Reads w' w'.heap.size 1 A xs.length (ints xs) ∧ Below w.heap.size w w'
/-- texts handed back -/
def TextsPost (xs : List (List UInt8)) (w : World) (e : Ending) (w' : World) : Prop := ∃ A cap, e = .returned (.slice A xs.length cap) ∧ xs.length ≤ cap ∧ Reads w' w'.heap.size 1 A xs.length (strs xs) ∧ Below w.heap.size w w'
theorem own_capA {base e size n : Nat} {W : World} {A : Option Addr} {cap : Nat} {xs : List Value} (ho : W.ownsRow base e size (.slice A n cap) n xs) : n ≤ cap := by
  rcases ho.2 with ⟨h0, h1⟩ | ⟨g, c, cur, h0, _, _, h1, _⟩
  · omega
  · injection h0 with _ _ h2; omega

set_option maxRecDepth 100000 in
set_option maxHeartbeats 4000000 in
theorem pnamed (A : Option Addr) (n c : Nat) (l : List Fld) (nm : ByteArray) (w : World) (hr : Reads w w.heap.size 2 A n (fldsC l)) (hn : n ≤ 100000) (hl : fldsOk l) (hnm : nm.size ≤ 9223372036854775807) :
    Calls Tryd.prog 61 #[.slice A n c, .string nm] w (IntsPost (namedL nm.data.toList 0 l) w) := by
  obtain rfl := hr.flen
  have HR := Lib.hid hr
  have HL := Lib.hid hl
  clear hr hl
  go_enter Tryd.func61, Tryd.ntmps61
  go_wp2_with fail
  go_loopw [5, 10] (fun o i wr => ∃ k : Nat, i = .int .i64 k ∧ k ≤ l.length ∧ Hid (wr.ownsRow w.heap.size 3 1 o (namedL nm.data.toList 0 (l.take k)).length (ints (namedL nm.data.toList 0 (l.take k)))) ∧ Below w.heap.size w wr) (fun _ i _ => l.length - (intOf i).toNat)
  case atStart => exact ⟨0, rfl, by omega, World.ownsRow_nil _ _ _ _, Below.refl _ _⟩
  case round =>
    obtain ⟨k, rfl, hk, HO, hb⟩ := hrel
    rename World => W0
    by_cases hlt : k < l.length
    · obtain ⟨b, o, rfl, hbl, q0, q1⟩ := HR.out.fld k hlt
      have c0 := (hb.cell (p := ⟨b, o + k * 2, none⟩) hbl).trans q0
      have c1 := (hb.cell (p := ⟨b, o + k * 2 + 1, none⟩) hbl).trans q1
      obtain ⟨f, hf⟩ : ∃ f, l[k] = f := ⟨_, rfl⟩
      have hok := HL.out l[k] (List.getElem_mem hlt)
      rw [hf] at c0 c1 hok
      have htk := take_snoc_of hlt hf
      have hnl := namedL_len nm.data.toList 0 (l.take k)
      rw [List.length_take] at hnl
      have cS := fun w => TSame_any (bs f.1) nm w (by rw [bs_size]; omega) (by omega)
      rw [bs_list] at cS
      rcases Bool.eq_false_or_eq_true (sameN nm.data.toList f) with hs | hs
      · have hN := namedL_app nm.data.toList 0 (l.take k) f
        rw [← htk, hs, if_pos rfl, List.length_take, Nat.min_eq_left (by omega), Nat.zero_add] at hN
        have hs' : (lowL f.1 == lowL nm.data.toList) = true := hs
        rw [hs'] at cS
        have CS := Lib.hid cS
        have HN := Lib.hid hN
        clear q0 q1 cS hf htk hs hs' hN hok
        go_wp2_with fail
        (with_reducible refine (CS.out _).mono ?_); rintro e w1 ⟨rfl, hb1⟩
        have hbX := (hb.alloc hb.size _).trans (hb1.mono (by have := hb.size; simp; omega))
        have hbA : Below W0.heap.size W0 w1 := ((Below.refl _ _).alloc (Nat.le_refl _) _).trans (hb1.mono (by simp))
        obtain ⟨v', w5, hrun, hown, hb5, _⟩ := app_int (own_below HO.out hbA) hbX.size (by omega) k
        have HO' : Hid (w5.ownsRow w.heap.size 3 1 v' (namedL nm.data.toList 0 (l.take (k + 1))).length (ints (namedL nm.data.toList 0 (l.take (k + 1))))) := by
          show w5.ownsRow _ _ _ _ _ _
          rw [HN.out]; exact hown
        have HRUN := Lib.hid hrun
        have hbY := hbX.trans hb5
        clear hrun hown hb5 hb1 hbA hbX
        go_wp2_with (at_builtin; refine wpList_append_run HRUN.out rfl _ _ rfl rfl rfl rfl ?_)
        go_roundw
        case rel => exact ⟨k + 1, by go_num, by omega, HO', hbY⟩
        case measure => simp [intOf]; omega
      · have hN := namedL_app nm.data.toList 0 (l.take k) f
        rw [← htk, hs, if_neg (by simp), List.append_nil] at hN
        have hs' : (lowL f.1 == lowL nm.data.toList) = false := hs
        rw [hs'] at cS
        have CS := Lib.hid cS
        have HN := Lib.hid hN
        clear q0 q1 cS hf htk hs hs' hN hok
        go_wp2_with fail
        (with_reducible refine (CS.out _).mono ?_); rintro e w1 ⟨rfl, hb1⟩
        have hbX := (hb.alloc hb.size _).trans (hb1.mono (by have := hb.size; simp; omega))
        have hbA : Below W0.heap.size W0 w1 := ((Below.refl _ _).alloc (Nat.le_refl _) _).trans (hb1.mono (by simp))
        have HO' : Hid (w1.ownsRow w.heap.size 3 1 u5 (namedL nm.data.toList 0 (l.take (k + 1))).length (ints (namedL nm.data.toList 0 (l.take (k + 1))))) := by
          show w1.ownsRow _ _ _ _ _ _
          rw [HN.out]; exact own_below HO.out hbA
        clear hb1 hbA
        go_wp2_with fail
        go_roundw
        case rel => exact ⟨k + 1, by go_num, by omega, HO', hbX⟩
        case measure => simp [intOf]; omega
    · have hkl : k = l.length := by omega
      subst hkl
      have hd2 : decide ((l.length : Int) < (l.length : Int)) = false := by simp
      have ho := HO.out
      rw [List.take_length] at ho
      obtain ⟨A', cap, rfl⟩ := own_slice ho
      have HO2 := Lib.hid ho
      clear ho
      go_wp2_with fail
      go_ret
      exact ⟨A', cap, rfl, Reads.of_own HO2.out, hb⟩

theorem getD_at {α : Type} (l : List α) (i : Nat) (d : α) (h : i < l.length) : l.getD i d = l[i] := by
  rw [List.getD_eq_getElem?_getD, List.getElem?_eq_getElem h]; rfl
theorem Reads.num {w : World} {B n : Nat} {A : Option Addr} {xs : List Nat} (h : Reads w B 1 A n (ints xs)) (k : Nat) (hk : k < xs.length) : ∃ b o, A = some ⟨b, o, none⟩ ∧ b < B ∧ w.cell? ⟨b, o + k, none⟩ = some (.int .i64 xs[k]) := by
  have hl := h.1
  rw [ints_len] at hl
  obtain ⟨b, o, e, hb, hc⟩ := h.lit (by omega)
  exact ⟨b, o, e, hb, hc k _ (ints_get xs k hk)⟩

set_option maxRecDepth 100000 in
set_option maxHeartbeats 4000000 in
theorem pvalues (A : Option Addr) (n c : Nat) (l : List Fld) (nm : ByteArray) (w : World) (hr : Reads w w.heap.size 2 A n (fldsC l)) (hn : n ≤ 100000) (hl : fldsOk l) (hnm : nm.size ≤ 100000) :
    Calls Tryd.prog 58 #[.slice A n c, .string nm] w (TextsPost (valuesL nm.data.toList l) w) := by
  obtain rfl := hr.flen
  rw [← values_named]
  have hlt0 := namedL_lt nm.data.toList 0 l
  have hlen := namedL_len nm.data.toList 0 l
  have cN := pnamed A l.length c l nm w hr hn hl (by omega)
  obtain ⟨ix, hix⟩ : ∃ ix, namedL nm.data.toList 0 l = ix := ⟨_, rfl⟩
  rw [hix] at hlt0 hlen cN ⊢
  obtain ⟨vf, hvf⟩ : ∃ vf : Nat → List UInt8, (fun i => (l.getD i ([], [])).2) = vf := ⟨_, rfl⟩
  rw [hvf]
  have CN := Lib.hid cN
  have HR := Lib.hid hr
  have HL := Lib.hid hlt0
  have HV := Lib.hid hvf
  clear hr hl cN hix hlt0 hvf
  go_enter Tryd.func58, Tryd.ntmps58
  go_wp2_with fail
  (with_reducible refine (CN.out).mono ?_); rintro e w1 ⟨A1, cap1, rfl, hr1, hb1⟩
  have HR1 := Lib.hid hr1
  clear hr1
  go_wp2_with fail
  go_loopw [5, 12] (fun o i wr => ∃ k : Nat, i = .int .i64 k ∧ k ≤ ix.length ∧ Hid (wr.ownsRow w1.heap.size 9 1 o ((ix.take k).map vf).length (strs ((ix.take k).map vf))) ∧ Below w1.heap.size w1 wr) (fun _ i _ => ix.length - (intOf i).toNat)
  case atStart => exact ⟨0, rfl, by omega, World.ownsRow_nil _ _ _ _, Below.refl _ _⟩
  case round =>
    obtain ⟨k, rfl, hk, HO, hb⟩ := hrel
    rename World => W0
    by_cases hlt : k < ix.length
    · obtain ⟨b1, o1, rfl, hbl1, q1⟩ := HR1.out.num k hlt
      obtain ⟨i, hi⟩ : ∃ i, ix[k] = i := ⟨_, rfl⟩
      have hil := HL.out ix[k] (List.getElem_mem hlt)
      rw [hi] at q1 hil
      have hilt : i < l.length := by omega
      obtain ⟨b, o, rfl, hbl, _, q2⟩ := HR.out.fld i hilt
      have hbw := hb1.trans (hb.mono hb1.size)
      have c1 := (hb.cell (p := ⟨b1, o1 + k, none⟩) hbl1).trans q1
      have c2 := (hbw.cell (p := ⟨b, o + i * 2 + 1, none⟩) hbl).trans q2
      have hvi : l[i].2 = vf i := by rw [← HV.out]; simp only; rw [getD_at l i _ hilt]
      rw [hvi] at c2
      have htk := take_snoc_of hlt hi
      have hml : ((ix.take k).map vf).length ≤ 100000 := by rw [List.length_map, List.length_take]; omega
      obtain ⟨v', w5, hrun, hown, hb5, _⟩ := app_txt HO.out hb.size (by omega) (vf i)
      have HO' : Hid (w5.ownsRow w1.heap.size 9 1 v' ((ix.take (k + 1)).map vf).length (strs ((ix.take (k + 1)).map vf))) := by
        show w5.ownsRow _ _ _ _ _ _
        rw [htk, List.map_append]; exact hown
      have HRUN := Lib.hid hrun
      have hbY := hb.trans hb5
      have i0 : (0 : Int) ≤ (i : Int) := by omega
      have i1 : (i : Int) < (l.length : Int) := by omega
      clear hrun hown hb5 q1 q2 hi hil hvi htk hml
      go_wp2_with (at_builtin; refine wpList_append_run HRUN.out rfl _ _ rfl rfl rfl rfl ?_)
      go_roundw
      case rel => exact ⟨k + 1, by go_num, by omega, HO', hbY⟩
      case measure => simp [intOf]; omega
    · have hkl : k = ix.length := by omega
      subst hkl
      have hd2 : decide ((ix.length : Int) < (ix.length : Int)) = false := by simp
      have ho := HO.out
      rw [List.take_length] at ho
      obtain ⟨A', cap, rfl⟩ := own_slice ho
      have HO2 := Lib.hid ho
      clear ho
      go_wp2_with fail
      go_ret
      exact ⟨A', cap, rfl, own_capA HO2.out, Reads.of_own HO2.out, hb1.trans (hb.mono hb1.size)⟩

end Go.Proofs.YtpdohlnobbimaaaDoor
