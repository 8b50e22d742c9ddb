/-
  Drop of the program.
-/
import Derived.Maps.AppendAt
import Derived.Test.YtpdohlnobbimaaaDoorMb
import Derived.Test.YtpdohlnobbimaaaDoorFd12
namespace Go.Proofs.YtpdohlnobbimaaaDoor
open Go.RowKit
open Go.Maps (Keyed IsMap Tidy setOf)

def accL (ns : List (List UInt8)) (l : List Fld) : List Nat := ns.flatMap fun nm => namedL nm 0 l
theorem accL_succ (ns : List (List UInt8)) (l : List Fld) (t : Nat) (ht : t < ns.length) : accL (ns.take (t + 1)) l = accL (ns.take t) l ++ namedL ns[t] 0 l := by
  unfold accL
  rw [List.take_succ_eq_append_getElem ht, List.flatMap_append, List.flatMap_cons, List.flatMap_nil, List.append_nil]
theorem accL_lt (ns : List (List UInt8)) (l : List Fld) : ∀ i ∈ accL ns l, i < l.length := by
  intro i hi
  obtain ⟨nm, _, h⟩ := List.mem_flatMap.1 hi
  have := namedL_lt nm 0 l i h
  omega
theorem accL_len (ns : List (List UInt8)) (l : List Fld) : (accL ns l).length ≤ ns.length * l.length := by
  induction ns with
  | nil => simp [accL]
  | cons nm r ih =>
    have h1 := namedL_len nm 0 l
    have h2 : accL (nm :: r) l = namedL nm 0 l ++ accL r l := by simp [accL]
    rw [h2, List.length_append, List.length_cons, Nat.succ_mul]
    omega
theorem accL_has (ns : List (List UInt8)) (l : List Fld) (k : Nat) (hk : k < l.length) : (accL ns l).contains k = goneF ns l[k] := by
  rw [Bool.eq_iff_iff, List.contains_iff_mem]
  unfold goneF accL
  rw [List.mem_flatMap, List.any_eq_true]
  constructor
  · rintro ⟨nm, h1, h2⟩
    exact ⟨nm, h1, (namedL_mem nm 0 l k hk).1 (by rwa [Nat.zero_add])⟩
  · rintro ⟨nm, h1, h2⟩
    have := (namedL_mem nm 0 l k hk).2 h2
    rw [Nat.zero_add] at this
    exact ⟨nm, h1, this⟩
theorem range_map {α : Type} (l : List α) (d : α) : (List.range l.length).map (fun i => l.getD i d) = l := by
  apply List.ext_getElem (by simp)
  intro i h1 h2
  simp [List.getElem?_eq_getElem h2]
theorem accL_count (ns : List (List UInt8)) (l : List Fld) : (List.range l.length).countP (fun i => (accL ns l).contains i) = l.length - (dropL ns l).length := by
  have h1 : (List.range l.length).countP (fun i => (accL ns l).contains i) = (List.range l.length).countP (fun i => goneF ns (l.getD i ([], []))) := by
    apply List.countP_congr
    intro i hi
    have := List.mem_range.1 hi
    rw [accL_has ns l i this, getD_at l i _ this]
  have h2 : (List.range l.length).countP (fun i => goneF ns (l.getD i ([], []))) = l.countP (goneF ns) := by
    have := range_map l ([], [])
    conv => rhs; rw [← this]
    rw [List.countP_map]
    rfl
  have h3 : l.length = l.countP (goneF ns) + l.countP (fun f => ¬ goneF ns f = true) := List.length_eq_countP_add_countP (goneF ns)
  have h4 : (dropL ns l).length = l.countP (fun f => ¬ goneF ns f = true) := by
    unfold dropL
    rw [← List.countP_eq_length_filter]
    congr 1
    funext f
    cases goneF ns f <;> rfl
  rw [h1, h2]
  omega
theorem ownsMap_below {H : Type} {P : Program} {k : TypeId} {R : Value → Option (DataW H × List MemPlace)} {b n : Nat} {D : DataW H} {W W' : World} (h : W.ownsMap P k R b n D) (hB : Below W.heap.size W W') : W'.ownsMap P k R b n D := by
  have hlt := h.lt
  obtain ⟨es, clock, hb, r⟩ := h
  exact ⟨es, clock, (hB.block b hlt).trans hb, r⟩
theorem ownsMap_far {H : Type} {P : Program} {k : TypeId} {R : Value → Option (DataW H × List MemPlace)} {b n : Nat} {D : DataW H} {W : World} (h : W.ownsMap P k R b n D) {b' o : Nat} {v : Value} (hc : W.cell? ⟨b', o, none⟩ = some v) : b' ≠ b := by
  obtain ⟨es, clock, hb, r⟩ := h
  intro e
  subst e
  simp [World.cell?, hb] at hc
theorem lawInt : Keyed Tryd.prog 3 := Maps.int_keyed Tryd.underlying3
theorem zeroBool (w : World) : (zeroValue 4).run Tryd.prog w = .ok (.bool false) w := by kernel_rfl
theorem keyNat (x : Nat) (h : x ≤ 1000000) : keyOf Tryd.prog 3 (.int .i64 (x : Int)) = some (.int .i64 (x : Int)) := Maps.keyOf_int_mk Tryd.underlying3 (WalkArith.wf_i64 (by omega))

set_option maxRecDepth 100000 in
set_option maxHeartbeats 16000000 in
theorem pDrop (A B : Option Addr) (n c m d : Nat) (l : List Fld) (ns : List (List UInt8)) (w : World) (hr : Reads w w.heap.size 2 A n (fldsC l)) (hs : Reads w w.heap.size 1 B m (strs ns)) (hn : n ≤ 100000) (hm : m ≤ 100000) (hl : fldsOk l) (hx : ∀ x ∈ ns, x.length ≤ 9223372036854775807) :
    Calls Tryd.prog 19 #[.slice A n c, .slice B m d] w (DropPost ns l w) := by
  obtain rfl := hr.flen
  obtain rfl : m = ns.length := by simpa [strs] using hs.len
  have cA := pask A B l.length c ns.length d l ns w hr hs hn hm hl hx
  obtain ⟨E, hE⟩ : ∃ E, askL l ns = E := ⟨_, rfl⟩
  unfold DropPost dropR dropN
  rw [hE] at cA ⊢
  have cN := fun nm w hr hnm => pnamed A l.length c l nm w hr hn hl hnm
  unfold IntsPost at cN
  have CN := Lib.hid cN
  have HR := Lib.hid hr
  have HS := Lib.hid hs
  have HX := Lib.hid hx
  clear cN hr hs hl hx hE
  by_cases he : E = 0
  · subst he
    rw [if_pos rfl, if_pos rfl]
    rw [if_pos rfl] at cA
    have CA := Lib.hid cA
    clear cA
    have e1 : (((0 : Nat) : Int) != 0) = false := rfl
    have hmm := @run_makeMap Tryd.prog
    go_enter Tryd.func19, Tryd.ntmps19
    go_wp2_with fail
    (with_reducible refine (CA.out).mono ?_); rintro e w1 ⟨rfl, hb1⟩
    obtain ⟨W2, hW2⟩ : ∃ W2, w1.alloc (.cells #[.slice A l.length c, .slice B ns.length d] 81) = W2 := ⟨_, rfl⟩
    have hs2 : W2.heap.size = w1.heap.size + 1 := by rw [← hW2]; simp
    have hB2 : Blk W2 w1.heap.size 81 #[.slice A l.length c, .slice B ns.length d] := by rw [← hW2]; exact Blk.new _ _ _
    have hb2 : Below w.heap.size w W2 := by rw [← hW2]; exact hb1.alloc hb1.size _
    have HB2 := Lib.hid hB2
    have HB1 := Lib.hid (And.intro hb2 hs2)
    have hM3 : (W2.alloc (.map #[] 0)).ownsMap Tryd.prog 3 (plainElem (H := Unit) Tryd.prog 4) (w1.heap.size + 1) 0 (setOf (.lit (.bool true)) (natKeys (accL (ns.take 0) l))) := by
      have := World.ownsMap_made (H := Unit) W2 Tryd.prog 3 (plainElem (H := Unit) Tryd.prog 4)
      rwa [hs2] at this
    have hb3 : Below (w1.heap.size + 1) W2 (W2.alloc (.map #[] 0)) := (Below.refl _ _).alloc (by rw [hs2]; exact Nat.le_refl _) _
    have HM3 := Lib.hid (And.intro hM3 hb3)
    clear hB2 hb2 hM3 hb3 hs2
    subst hW2
    go_wp2_with fail
    go_loopw [30] (fun i wr => ∃ t : Nat, i = .int .i64 t ∧ t ≤ ns.length ∧ Hid (wr.ownsMap Tryd.prog 3 (plainElem (H := Unit) Tryd.prog 4) (w1.heap.size + 1) (accL (ns.take t) l).length (setOf (.lit (.bool true)) (natKeys (accL (ns.take t) l)))) ∧ Hid (Below (w1.heap.size + 1) (w1.alloc (.cells #[.slice A l.length c, .slice B ns.length d] 81)) wr)) (fun i _ => ns.length - (intOf i).toNat)
    case atStart => exact ⟨0, rfl, by omega, hide (HM3.out.1), hide HM3.out.2⟩
    case round =>
      obtain ⟨t, rfl, ht, HM, hB⟩ := hrel
      rename World => W0
      by_cases hlt : t < ns.length
      · have hbW := HB1.out.1.trans (hB.out.mono (by have := HB1.out.1.size; have := HB1.out.2; omega))
        obtain ⟨b, o, rfl, hbl, q0⟩ := HS.out.text t hlt
        have c0 := (hbW.cell (p := ⟨b, o + t, none⟩) hbl).trans q0
        have hBk := HB2.out.below hB.out (by omega)
        have a0 : W0.cell? ⟨w1.heap.size, 0, none⟩ = some (.slice A l.length c) := hBk.cell 0
        have hxt := HX.out ns[t] (List.getElem_mem hlt)
        have hAS := accL_succ ns l t hlt
        have hNlt := namedL_lt ns[t] 0 l
        have hNl := namedL_len ns[t] 0 l
        obtain ⟨nm, hnm⟩ : ∃ nm, ns[t] = nm := ⟨_, rfl⟩
        rw [hnm] at c0 hxt hAS hNlt hNl
        have cN := fun w hr => CN.out (bs nm) w hr (by rw [bs_size]; omega)
        rw [bs_list] at cN
        obtain ⟨N, hN⟩ : ∃ N, namedL nm 0 l = N := ⟨_, rfl⟩
        rw [hN] at cN hAS hNlt hNl
        have C1 := Lib.hid cN
        have HAS := Lib.hid hAS
        have HN := Lib.hid hNlt
        have HW := Lib.hid hbW
        have i0 : (0 : Int) ≤ (t : Int) := by omega
        have i1 : (t : Int) < (ns.length : Int) := by omega
        have hal := accL_len (ns.take t) l
        have hal2 : (ns.take t).length * l.length ≤ 100000 * 100000 := Nat.mul_le_mul (by rw [List.length_take]; omega) hn
        have HAL := Lib.hid (Nat.le_trans hal hal2)
        clear cN q0 hbl hnm hN hAS hNlt hBk hbW hal hal2
        go_wp2_with fail
        (with_reducible refine (C1.out _ ((HR.out.below HW.out).more HW.out.size)).mono ?_); rintro e w4 ⟨A1, cap1, rfl, hr4, g4⟩
        have hM4 := ownsMap_below HM.out g4
        have hB4 : Below (w1.heap.size + 1) (w1.alloc (.cells #[.slice A l.length c, .slice (some ⟨b, o, none⟩) ns.length d] 81)) w4 := hB.out.trans (g4.mono (by have := hB.out.size; have := HB1.out.2; omega))
        have h4s : w1.heap.size + 1 ≤ w4.heap.size := by have := hB4.size; have := HB1.out.2; omega
        have HR4 := Lib.hid hr4
        have H4 := Lib.hid (And.intro hM4 (And.intro hB4 h4s))
        clear hr4 hM4 hB4 h4s g4 a0 c0
        go_wp2_with fail
        go_loopw [39] (fun i wr => ∃ j : Nat, i = .int .i64 j ∧ j ≤ N.length ∧ Hid (wr.ownsMap Tryd.prog 3 (plainElem (H := Unit) Tryd.prog 4) (w1.heap.size + 1) ((accL (ns.take t) l).length + j) (setOf (.lit (.bool true)) (natKeys (accL (ns.take t) l ++ N.take j)))) ∧ Hid (w4.grownBy wr (some (w1.heap.size + 1)))) (fun i _ => N.length - (intOf i).toNat)
        case atStart => exact ⟨0, rfl, by omega, hide (by simpa using H4.out.1), hide (World.grownBy.refl _ _)⟩
        case round =>
          obtain ⟨j, rfl, hj, HMj, hg⟩ := hrel
          rename World => X0
          by_cases hjl : j < N.length
          · obtain ⟨b1, o1, rfl, hbl1, q1⟩ := HR4.out.num j hjl
            have hne := ownsMap_far H4.out.1 q1
            have d0 := hg.out.cell q1 (by simp; exact hne)
            have hxl := HN.out N[j] (List.getElem_mem hjl)
            have htj : N.take (j + 1) = N.take j ++ [N[j]] := List.take_succ_eq_append_getElem hjl
            obtain ⟨x, hx⟩ : ∃ x, N[j] = x := ⟨_, rfl⟩
            rw [hx] at d0 hxl htj
            have hkey := keyNat x (by omega)
            have HMj := HMj.out
            have HT := Lib.hid htj
            have j0 : (0 : Int) ≤ (j : Int) := by omega
            have j1 : (j : Int) < (N.length : Int) := by omega
            clear q1 hx htj
            go_wp2_with (at_mapUpdate; refine wpList_mapUpdate_own _ rfl _ _ _ 89 rfl 3 4 lawInt Tryd.underlying89 _ (w1.heap.size + 1) ((accL (ns.take t) l).length + j) _ rfl HMj (by have := HAL.out; unfold maxLen; omega) _ _ _ rfl rfl hkey _ [] (plainElem_bool Tryd.underlying4 true) ?_; intro w5 hown5 hg5)
            go_roundw
            case rel => exact ⟨j + 1, by go_num, by omega, hide (by rw [HT.out, ← List.append_assoc, natKeys_app (_ ++ _) [x], show natKeys [x] = [Lit.int .i64 (x : Int)] from rfl, Maps.setOf_snoc]; exact hown5), hide (hg.out.trans hg5)⟩
            case measure => simp [intOf]; omega
          · obtain rfl : j = N.length := by omega
            have hd2 : decide ((N.length : Int) < (N.length : Int)) = false := by simp
            have hM5 : Hid (X0.ownsMap Tryd.prog 3 (plainElem (H := Unit) Tryd.prog 4) (w1.heap.size + 1) (accL (ns.take (t + 1)) l).length (setOf (.lit (.bool true)) (natKeys (accL (ns.take (t + 1)) l)))) := hide (by
              have := HMj.out
              rw [List.take_length] at this
              rw [HAS.out, List.length_append]
              exact this)
            have hB5 : Hid (Below (w1.heap.size + 1) (w1.alloc (.cells #[.slice A l.length c, .slice (some ⟨b, o, none⟩) ns.length d] 81)) X0) := hide (H4.out.2.1.grown hg.out H4.out.2.2 (fun j hj => by cases hj; exact Nat.le_refl _))
            go_wp2_with fail
            go_roundw
            case rel => exact ⟨t + 1, by go_num, by omega, hM5, hB5⟩
            case measure => simp [intOf]; omega
      · obtain rfl : t = ns.length := by omega
        have hd2 : decide ((ns.length : Int) < (ns.length : Int)) = false := by simp
        have hM5 := HM.out
        rw [List.take_length] at hM5
        have HM5 := Lib.hid hM5
        have hbW := HB1.out.1.trans (hB.out.mono (by have := HB1.out.1.size; have := HB1.out.2; omega))
        clear hM5
        go_wp2_with fail
        go_loopw [14, 49] (fun o i wr => ∃ k : Nat, i = .int .i64 k ∧ k ≤ l.length ∧ Hid (wr.ownsRow W0.heap.size 36 2 o (dropL ns (l.take k)).length (fldsC (dropL ns (l.take k)))) ∧ Below W0.heap.size W0 wr) (fun _ i _ => l.length - (intOf i).toNat)
        case atStart => exact ⟨0, rfl, by omega, World.ownsRow_nil _ _ _ _, Below.refl _ _⟩
        case round =>
          obtain ⟨k, rfl, hk, HO, hb⟩ := hrel
          rename World => X0
          have hP := dropL_len ns (l.take k)
          rw [List.length_take] at hP
          by_cases hkl : k < l.length
          · obtain ⟨b, o, rfl, hbl, q0, q1⟩ := HR.out.fld k hkl
            have hbX := hbW.trans (hb.mono hbW.size)
            have c0 := (hbX.cell (p := ⟨b, o + k * 2, none⟩) hbl).trans q0
            have c1 := (hbX.cell (p := ⟨b, o + k * 2 + 1, none⟩) hbl).trans q1
            have hcon := accL_has ns l k hkl
            obtain ⟨f, hf⟩ : ∃ f, l[k] = f := ⟨_, rfl⟩
            rw [hf] at c0 c1 hcon
            have htk := take_snoc_of hkl hf
            have hPA := dropL_app ns (l.take k) f
            rw [← htk] at hPA
            obtain ⟨W5, hW5⟩ : ∃ W5, X0.alloc (.cells #[.string (bs f.1), .string (bs f.2)] 36) = W5 := ⟨_, rfl⟩
            have g5 : Below X0.heap.size X0 W5 := by rw [← hW5]; exact (Below.refl _ _).alloc (Nat.le_refl _) _
            have hb5 : Below W0.heap.size W0 W5 := hb.trans (g5.mono hb.size)
            have HO5 := Lib.hid (own_below HO.out g5)
            have hM5 := ownsMap_below HM5.out hb5
            have hLK := lookup_set hM5 lawInt Tryd.underlying89 Tryd.underlying4 (zeroBool W5) (keyNat k (by omega)) (natKeys_key _)
            rw [natKeys_any, hcon] at hLK
            have HS5 := Lib.hid (show ∀ o, (X0.alloc o).heap.size = X0.heap.size + 1 by intro o; simp)
            have hk0 : (0 : Int) ≤ (k : Int) := by omega
            have hk1 : (k : Int) < (l.length : Int) := by omega
            obtain ⟨G, hG⟩ : ∃ G, goneF ns f = G := ⟨_, rfl⟩
            rw [hG] at hPA hLK
            clear q0 q1 htk hf hcon hG hM5
            subst hW5
            cases G with
            | true =>
              rw [if_pos rfl, List.append_nil] at hPA
              have HO' : Hid ((X0.alloc (.cells #[.string (bs f.1), .string (bs f.2)] 36)).ownsRow W0.heap.size 36 2 u14 (dropL ns (l.take (k + 1))).length (fldsC (dropL ns (l.take (k + 1))))) := by
                show World.ownsRow _ _ _ _ _ _ _
                rw [hPA]; exact HO5.out
              clear hPA hbX hb g5
              go_wp2_with fail
              go_roundw
              case rel => exact ⟨k + 1, by go_num, by omega, HO', hb5⟩
              case measure => simp [intOf]; omega
            | false =>
              rw [if_neg (by simp)] at hPA
              obtain ⟨v', w6, hrun, hown, hb6, _⟩ := app_fld HO5.out hb5.size (by omega) f
              rw [HS5.out] at hrun
              have HO' : Hid (w6.ownsRow W0.heap.size 36 2 v' (dropL ns (l.take (k + 1))).length (fldsC (dropL ns (l.take (k + 1))))) := by
                show w6.ownsRow _ _ _ _ _ _
                rw [hPA]; exact hown
              have HRUN := Lib.hid hrun
              have hbY := hb5.trans hb6
              clear hrun hown hb6 hb5 hbX hPA hb g5
              go_wp2_with (at_builtin; refine wpList_append_run HRUN.out rfl _ _ rfl rfl rfl rfl ?_)
              go_roundw
              case rel => exact ⟨k + 1, by go_num, by omega, HO', hbY⟩
              case measure => simp [intOf]; omega
          · obtain rfl : k = l.length := by omega
            have hd3 : decide ((l.length : Int) < (l.length : Int)) = false := by simp
            have ho := HO.out
            rw [List.take_length] at ho
            obtain ⟨A', cap, rfl⟩ := own_slice ho
            have HO2 := Lib.hid ho
            have hM6 := ownsMap_below HM5.out hb
            have hsz := size_nats l.length (.lit (.bool true)) (accL ns l) (accL_lt ns l)
            rw [accL_count] at hsz
            clear ho
            go_wp2_with (at_len; refine wpList_len_own _ rfl _ 89 rfl 3 4 Tryd.underlying89 _ (w1.heap.size + 1) _ _ rfl hM6 ?_)
            go_ret3
            exact ⟨A', cap, by rw [← hsz]; rfl, own_capA HO2.out, Reads.of_own HO2.out, hbW.trans (hb.mono hbW.size)⟩
  · rw [if_neg he, if_neg he]
    rw [if_neg he] at cA
    unfold nilAsk at cA
    have CA := Lib.hid cA
    clear cA
    have e1 : ((E : Int) != 0) = true := by rw [bne_iff_ne]; omega
    go_enter Tryd.func19, Tryd.ntmps19
    go_wp2_with fail
    (with_reducible refine (CA.out).mono ?_); rintro e w1 ⟨rfl, hb1⟩
    go_wp2_with fail
    go_ret3
    exact ⟨none, 0, rfl, Nat.zero_le _, Reads.none_, hb1.alloc hb1.size _⟩
end Go.Proofs.YtpdohlnobbimaaaDoor
