/-
  A field put where its name is there: of the program (Put).
-/
import Derived.Test.YtpdohlnobbimaaaDoorFd6
namespace Go.Proofs.YtpdohlnobbimaaaDoor
open Go.RowKit

/-- a field in the place of the first with its name, and the others with its name away -/
def putL (x : Fld) : Bool → List Fld → List Fld
  | _, [] => []
  | d, f :: l => if sameN x.1 f then (if d then putL x true l else x :: putL x true l) else f :: putL x d l
theorem putL_app (x : Fld) (d : Bool) (l : List Fld) (f : Fld) : putL x d (l ++ [f]) = putL x d l ++ (if sameN x.1 f then (if d || l.any (sameN x.1) then [] else [x]) else [f]) := by
  induction l generalizing d with
  | nil => simp [putL]
  | cons g l ih =>
    rw [List.cons_append, putL, putL, ih, ih, List.any_cons]
    by_cases hg : sameN x.1 g = true
    · rw [if_pos hg, if_pos hg, hg, Bool.true_or, Bool.or_true]
      cases d <;> simp
    · have hg' : sameN x.1 g = false := by simpa using hg
      rw [hg', Bool.false_or]
      simp
theorem putL_len (x : Fld) (d : Bool) (l : List Fld) : (putL x d l).length ≤ l.length := by
  induction l generalizing d with
  | nil => simp [putL]
  | cons g l ih =>
    rw [putL]
    have := ih true
    have := ih d
    split
    · split <;> simp <;> omega
    · simp; omega
theorem namedL_first {nm : List UInt8} {j : Nat} {l : List Fld} {a0 : Nat} {r : List Nat} (h : namedL nm j l = a0 :: r) : ∃ i, ∃ hi : i < l.length, a0 = j + i ∧ sameN nm l[i] = true ∧ ∀ m, ∀ hm : m < l.length, m < i → sameN nm l[m] = false := by
  induction l generalizing j with
  | nil => simp [namedL] at h
  | cons f l ih =>
    rw [namedL] at h
    by_cases hs : sameN nm f = true
    · rw [if_pos hs] at h
      injection h with h1 _
      exact ⟨0, by simp, by omega, hs, fun m _ hm => absurd hm (by omega)⟩
    · rw [if_neg hs] at h
      obtain ⟨i, hi, e, h1, h2⟩ := ih h
      refine ⟨i + 1, by simpa using hi, by omega, by simpa using h1, fun m hm hmi => ?_⟩
      cases m with
      | zero => simpa using hs
      | succ m => simpa using h2 m (by simpa using hm) (by omega)
theorem namedL_mem (nm : List UInt8) (j : Nat) (l : List Fld) (k : Nat) (hk : k < l.length) : (j + k) ∈ namedL nm j l ↔ sameN nm l[k] = true := by
  induction l generalizing j k with
  | nil => simp at hk
  | cons f l ih =>
    rw [namedL]
    cases k with
    | zero =>
      rw [Nat.add_zero, List.getElem_cons_zero]
      constructor
      · intro h
        by_cases hs : sameN nm f = true
        · exact hs
        · rw [if_neg hs] at h
          have := (namedL_lt nm (j + 1) l j h).1
          omega
      · intro hs; rw [if_pos hs]; simp
    | succ k =>
      have h := ih (j + 1) k (by simpa using hk)
      rw [show j + 1 + k = j + (k + 1) by omega] at h
      rw [List.getElem_cons_succ, ← h]
      split
      · rw [List.mem_cons]
        exact ⟨fun g => g.elim (fun e => absurd e (by omega)) id, .inr⟩
      · rfl
theorem put_first {x : Fld} {l : List Fld} {a0 : Nat} {r : List Nat} (h : namedL x.1 0 l = a0 :: r) (k : Nat) (hk : k < l.length) (e : k = a0) : sameN x.1 l[k] = true ∧ (l.take k).any (sameN x.1) = false := by
  obtain ⟨i, hi, e1, h1, h2⟩ := namedL_first h
  have : k = i := by omega
  subst this
  refine ⟨h1, ?_⟩
  rw [List.any_eq_false]
  intro f hf
  obtain ⟨m, hm, rfl⟩ := List.getElem_of_mem hf
  rw [List.getElem_take]
  rw [List.length_take] at hm
  rw [h2 m (by omega) (by omega)]
  simp
theorem put_later {x : Fld} {l : List Fld} {a0 : Nat} {r : List Nat} (h : namedL x.1 0 l = a0 :: r) (k : Nat) (hk : k < l.length) (e : k ≠ a0) (hs : sameN x.1 l[k] = true) : (l.take k).any (sameN x.1) = true := by
  obtain ⟨i, hi, e1, h1, h2⟩ := namedL_first h
  have hik : i < k := by
    rcases Nat.lt_or_ge i k with g | g
    · exact g
    · have : k < i := by omega
      have := h2 k hk this
      rw [hs] at this
      simp at this
  rw [List.any_eq_true]
  refine ⟨l[i], ?_, h1⟩
  rw [← List.getElem_take (i := i) (j := k) (h := by rw [List.length_take]; omega)]
  exact List.getElem_mem _

theorem ContainsI (A : Option Addr) (n c : Nat) (xs : List Nat) (k : Nat) (w : World) (hr : Reads w w.heap.size 1 A n (ints xs)) (hn : n ≤ 1000000) :
    Calls Tryd.prog 63 #[.slice A n c, .int .i64 k] w fun e w' => e = .returned (.bool (xs.contains k)) ∧ w' = w := by
  have hlen := hr.1
  rw [ints_len] at hlen
  obtain rfl : xs.length = n := by omega
  by_cases h0 : xs.length = 0
  · obtain rfl := List.eq_nil_of_length_eq_zero h0
    exact (Tryd.slices_Contains_int_empty A c k w).mono fun e w' ⟨he, hw⟩ => ⟨he, hw⟩
  · obtain ⟨b, o, rfl, hb, hc⟩ := hr.lit (by omega)
    refine (Tryd.slices_Contains_int b o xs.length c (xs.map (fun i : Nat => (i : Int))) k w (by simp) (by omega) fun j hj => ?_).mono fun e w' ⟨he, hw⟩ => ⟨?_, hw⟩
    · rw [List.length_map] at hj
      rw [hc j _ (ints_get xs j hj), List.getD_eq_getElem?_getD, List.getElem?_map, List.getElem?_eq_getElem hj]
      rfl
    · rw [he]
      congr 2
      rw [List.take_of_length_le (by simp), Bool.eq_iff_iff, List.contains_iff_mem, List.contains_iff_mem, List.mem_map]
      constructor
      · rintro ⟨y, hy, e⟩
        have : y = k := by omega
        exact this ▸ hy
      · intro hy; exact ⟨_, hy, rfl⟩

/-- a list of fields handed back, and an error -/
def FldsPost (xs : List Fld) (E : Nat) (w : World) (e : Ending) (w' : World) : Prop := ∃ A cap, e = .returned (.tuple #[.slice A xs.length cap, .int .i64 E]) ∧ xs.length ≤ cap ∧ Reads w' w'.heap.size 2 A xs.length (fldsC xs) ∧ Below w.heap.size w w'

set_option maxRecDepth 100000 in
set_option maxHeartbeats 8000000 in
theorem pPutHit (A : Option Addr) (n c : Nat) (l : List Fld) (x : Fld) (w : World) (hr : Reads w w.heap.size 2 A n (fldsC l)) (hn : n ≤ 100000) (hl : fldsOk l) (hx1 : x.1.length ≤ 100000) (hx2 : x.2.length ≤ 100000) (he : askL l [] = 0) (ho : oneL x = 0) (a0 : Nat) (r : List Nat) (hat : namedL x.1 0 l = a0 :: r) :
    Calls Tryd.prog 22 #[.slice A n c, .agg #[.string (bs x.1), .string (bs x.2)]] w (FldsPost (putL x false l) 0 w) := by
  obtain rfl := hr.flen
  obtain ⟨W1, hW1⟩ : ∃ W1, w.alloc (.cells #[.string (bs x.1), .string (bs x.2)] 36) = W1 := ⟨_, rfl⟩
  have hB1 : Blk W1 w.heap.size 36 #[.string (bs x.1), .string (bs x.2)] := by rw [← hW1]; exact Blk.new _ _ _
  have hb1 : Below w.heap.size w W1 := by rw [← hW1]; exact (Below.refl _ _).alloc (Nat.le_refl _) _
  have hr1 := (hr.below hb1).more hb1.size
  have cA := pask A none l.length c 0 0 l [] W1 hr1 Reads.none_ hn (by omega) hl (by simp)
  rw [he, if_pos rfl] at cA
  have CA := Lib.hid cA
  have cO := fun w => pone x w hx1 hx2
  rw [ho] at cO
  unfold fldV at cO
  have CO := Lib.hid cO
  have cN := fun w hr => pnamed A l.length c l (bs x.1) w hr hn hl (by rw [bs_size]; omega)
  rw [bs_list, hat] at cN
  unfold IntsPost at cN
  have CN := Lib.hid cN
  have HR := Lib.hid hr
  have HL := Lib.hid hl
  have HAT := Lib.hid hat
  have HB1 := Lib.hid hB1
  have HW1 := Lib.hid hW1
  have e1 : (((0 : Nat) : Int) != 0) = false := rfl
  have hal := namedL_len x.1 0 l
  rw [hat] at hal
  clear cA cO cN hr hl hat hB1 he ho hr1
  go_enter Tryd.func22, Tryd.ntmps22
  go_wp2_with fail
  (with_reducible refine (CA.out).mono ?_); rintro e w2 ⟨rfl, g2⟩
  have hb2 := hb1.trans (g2.mono hb1.size)
  have hB2 := HB1.out.below g2 HB1.out.lt
  obtain ⟨W2, hW2⟩ : ∃ W2, w2.alloc (.cells #[.slice A l.length c, .slice none 0 0] 81) = W2 := ⟨_, rfl⟩
  have hB2' : Blk W2 w.heap.size 36 #[.string (bs x.1), .string (bs x.2)] := by rw [← hW2]; exact hB2.alloc _
  have hb2' : Below w.heap.size w W2 := by rw [← hW2]; exact hb2.alloc hb2.size _
  have HB2 := Lib.hid hB2'
  have d0 : W2.cell? ⟨w.heap.size, 0, none⟩ = some (.string (bs x.1)) := hB2'.cell 0
  have d1 : W2.cell? ⟨w.heap.size, 1, none⟩ = some (.string (bs x.2)) := hB2'.cell 1
  clear g2 hb2 hB2 hB2' hb1
  subst hW2
  go_wp2_with fail
  (with_reducible refine (CO.out _).mono ?_); rintro e w3 ⟨rfl, g3⟩
  have hb3 := hb2'.trans (g3.mono hb2'.size)
  have hB3 := HB2.out.below g3 HB2.out.lt
  have HB3 := Lib.hid hB3
  have e0 : w3.cell? ⟨w.heap.size, 0, none⟩ = some (.string (bs x.1)) := hB3.cell 0
  have e2 : w3.cell? ⟨w.heap.size, 1, none⟩ = some (.string (bs x.2)) := hB3.cell 1
  clear g3 hB3 d0 d1 hb2'
  go_wp2_with fail
  (with_reducible refine (CN.out _ ((HR.out.below hb3).more hb3.size)).mono ?_); rintro e w4 ⟨A1, cap1, rfl, hr4, g4⟩
  have hb4 := hb3.trans (g4.mono hb3.size)
  have hB4 := HB3.out.below g4 HB3.out.lt
  have HB4 := Lib.hid hB4
  have HR4 := Lib.hid hr4
  obtain ⟨b1, o1, rfl, hbl1, q1⟩ := hr4.num 0 (by simp)
  have q1' : w4.cell? ⟨b1, o1, none⟩ = some (.int .i64 a0) := q1
  have HQ := Lib.hid (And.intro hbl1 q1')
  have z1 : ((r.length : Int) + 1 == 0) = false := beq_eq_false_iff_ne.2 (by omega)
  clear g4 hB4 e0 e2 hb3 hr4 q1 q1' hbl1 e1
  go_wp2_with fail
  go_loopw [10, 40] (fun o i wr => ∃ k : Nat, i = .int .i64 k ∧ k ≤ l.length ∧ Hid (wr.ownsRow w4.heap.size 36 2 o (putL x false (l.take k)).length (fldsC (putL x false (l.take k)))) ∧ Below w4.heap.size w4 wr) (fun _ i _ => l.length - (intOf i).toNat)
  case atStart => exact ⟨0, rfl, by omega, World.ownsRow_nil _ _ _ _, Below.refl _ _⟩
  case round =>
    obtain ⟨k, rfl, hk, HO, hb⟩ := hrel
    rename World => W0
    have hP := putL_len x false (l.take k)
    rw [List.length_take] at hP
    by_cases hlt : k < l.length
    · obtain ⟨b, o, rfl, hbl, q0, q1⟩ := HR.out.fld k hlt
      have hbw := hb4.trans (hb.mono hb4.size)
      have c0 := (hbw.cell (p := ⟨b, o + k * 2, none⟩) hbl).trans q0
      have c1 := (hbw.cell (p := ⟨b, o + k * 2 + 1, none⟩) hbl).trans q1
      have HB5 := Lib.hid (HB4.out.below hb HB4.out.lt)
      have f0 : W0.cell? ⟨w.heap.size, 0, none⟩ = some (.string (bs x.1)) := HB5.out.cell 0
      have f1 : W0.cell? ⟨w.heap.size, 1, none⟩ = some (.string (bs x.2)) := HB5.out.cell 1
      have hca := (hb.cell (p := ⟨b1, o1, none⟩) HQ.out.1).trans HQ.out.2
      obtain ⟨f, hf⟩ : ∃ f, l[k] = f := ⟨_, rfl⟩
      rw [hf] at c0 c1
      have htk := take_snoc_of hlt hf
      have hPA := putL_app x false (l.take k) f
      rw [← htk, Bool.false_or] at hPA
      obtain ⟨W5, hW5⟩ : ∃ W5, W0.alloc (.cells #[.string (bs f.1), .string (bs f.2)] 36) = W5 := ⟨_, rfl⟩
      have g5 : Below W0.heap.size W0 W5 := by rw [← hW5]; exact (Below.refl _ _).alloc (Nat.le_refl _) _
      have hb5 : Below w4.heap.size w4 W5 := hb.trans (g5.mono hb.size)
      have HO5 := Lib.hid (own_below HO.out g5)
      have f2 : W5.cell? ⟨w.heap.size, 0, none⟩ = some (.string (bs x.1)) := (g5.cell (p := ⟨w.heap.size, 0, none⟩) HB5.out.lt).trans f0
      have f3 : W5.cell? ⟨w.heap.size, 1, none⟩ = some (.string (bs x.2)) := (g5.cell (p := ⟨w.heap.size, 1, none⟩) HB5.out.lt).trans f1
      have hcb := (g5.cell (p := ⟨b1, o1, none⟩) (Nat.lt_of_lt_of_le HQ.out.1 hb.size)).trans hca
      have hs5 : ∀ o, (W0.alloc o).heap.size = W0.heap.size + 1 := by intro o; simp
      subst hW5
      have HPA := Lib.hid hPA
      have HF := Lib.hid hf
      have hz1 : (0 : Int) < ((a0 :: r).length : Int) := by rw [List.length_cons]; omega
      have hz2 : 0 < (a0 :: r).length := by rw [List.length_cons]; omega
      clear q0 q1 hPA htk f0 f1 hca hf
      have HS5 := Lib.hid hs5
      clear hs5
      by_cases hka : k = a0
      · have hpf := put_first HAT.out k hlt hka
        rw [HF.out] at hpf
        obtain ⟨v', w6, hrun, hown, hb6, _⟩ := app_fld HO5.out hb5.size (by omega) x
        rw [HS5.out] at hrun
        have hPA := HPA.out
        rw [hpf.1, hpf.2, if_pos rfl, if_neg (by simp)] at hPA
        have HO' : Hid (w6.ownsRow w4.heap.size 36 2 v' (putL x false (l.take (k + 1))).length (fldsC (putL x false (l.take (k + 1))))) := by
          show w6.ownsRow _ _ _ _ _ _
          rw [hPA]; exact hown
        have HRUN := Lib.hid hrun
        have hbY := hb5.trans hb6
        have ek : ((k : Int) == (a0 : Int)) = true := by rw [beq_iff_eq, hka]
        clear hrun hown hb6 hb5 g5 hbw hka hpf hPA hP
        go_wp2_with (at_builtin; refine wpList_append_run HRUN.out rfl _ _ rfl rfl rfl rfl ?_)
        go_roundw
        case rel => exact ⟨k + 1, by go_num, by omega, HO', hbY⟩
        case measure => simp [intOf]; omega
      · have ek : ((k : Int) == (a0 : Int)) = false := beq_eq_false_iff_ne.2 (by omega)
        have cC := ContainsI (some ⟨b1, o1, none⟩) (a0 :: r).length cap1 (a0 :: r) k _ ((HR4.out.below hb5).more hb5.size) (by omega)
        rw [List.length_cons] at cC
        rcases Bool.eq_false_or_eq_true (sameN x.1 f) with hs | hs
        · have hin : (a0 :: r).contains k = true := by
            rw [List.contains_iff_mem, ← HAT.out]
            have := (namedL_mem x.1 0 l k hlt).2 (by rw [HF.out]; exact hs)
            rwa [Nat.zero_add] at this
          rw [hin] at cC
          have hpl := put_later HAT.out k hlt hka (by rw [HF.out]; exact hs)
          have hPA := HPA.out
          rw [hs, hpl, if_pos rfl, if_pos rfl, List.append_nil] at hPA
          have HO' := HO5.out
          rw [← hPA] at HO'
          have HO' := Lib.hid HO'
          have CC := Lib.hid cC
          clear cC hbw hka hPA hP hs hin hpl
          go_wp2_with fail
          (with_reducible refine (CC.out).mono ?_); rintro e w6 ⟨rfl, rfl⟩
          go_wp2_with fail
          go_roundw
          case rel => exact ⟨k + 1, by go_num, by omega, HO', hb5⟩
          case measure => simp [intOf]; omega
        · have hin : (a0 :: r).contains k = false := by
            rw [← Bool.not_eq_true, List.contains_iff_mem, ← HAT.out]
            intro h
            have := (namedL_mem x.1 0 l k hlt).1 (by rwa [Nat.zero_add])
            rw [HF.out, hs] at this
            simp at this
          rw [hin] at cC
          obtain ⟨v', w6, hrun, hown, hb6, _⟩ := app_fld HO5.out hb5.size (by omega) f
          rw [HS5.out] at hrun
          have hPA := HPA.out
          rw [hs, if_neg (by simp)] at hPA
          have HO' : Hid (w6.ownsRow w4.heap.size 36 2 v' (putL x false (l.take (k + 1))).length (fldsC (putL x false (l.take (k + 1))))) := by
            show w6.ownsRow _ _ _ _ _ _
            rw [hPA]; exact hown
          have HRUN := Lib.hid hrun
          have hbY := hb5.trans hb6
          have CC := Lib.hid cC
          clear cC hrun hown hb6 hb5 g5 hbw hka hPA hP hs hin
          go_wp2_with fail
          (with_reducible refine (CC.out).mono ?_); rintro e w7 ⟨rfl, rfl⟩
          go_wp2_with (at_builtin; refine wpList_append_run HRUN.out rfl _ _ rfl rfl rfl rfl ?_)
          go_roundw
          case rel => exact ⟨k + 1, by go_num, by omega, HO', hbY⟩
          case measure => simp [intOf]; omega
    · have hkl : k = l.length := by omega
      subst hkl
      have hd2 : decide ((l.length : Int) < (l.length : Int)) = false := by simp
      have ho := HO.out
      rw [List.take_length] at ho
      obtain ⟨A', cap, rfl⟩ := own_slice ho
      have HO2 := Lib.hid ho
      clear ho
      go_wp2_with fail
      go_ret2
      exact ⟨A', cap, rfl, own_capA HO2.out, Reads.of_own HO2.out, hb4.trans (hb.mono hb4.size)⟩
end Go.Proofs.YtpdohlnobbimaaaDoor
