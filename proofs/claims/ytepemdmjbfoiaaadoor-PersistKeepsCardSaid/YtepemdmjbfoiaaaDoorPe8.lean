/-
  Run and Closes of the reference.
-/
import Derived.Test.YtepemdmjbfoiaaaDoorPe6
import Derived.Test.YtepemdmjbfoiaaaDoorPe3
import Derived.Deep.RegionHeld3
namespace Go.Proofs.YtepemdmjbfoiaaaDoor
open Go.RowKit

set_option maxRecDepth 100000 in
set_option maxHeartbeats 4000000 in
theorem rCloses (A : Option Addr) (n c : Nat) (l : List Fld) (w : World) (hr : Reads w w.heap.size 2 A n (fldsC l)) (hn : n ≤ 1000000) (hl : fldsOk l) :
    Calls Tryd.prog 91 #[.slice A n c] w fun e w' => e = .returned (.bool (l.any closeF)) ∧ Below w.heap.size w w' := by
  obtain rfl := hr.flen
  obtain ⟨X, hX⟩ : ∃ X, l.any closeF = X := ⟨_, rfl⟩
  rw [hX]
  have HX := Lib.hid hX
  have HR := Lib.hid hr
  have HL := Lib.hid hl
  clear hr hl hX
  go_enter Tryd.func91, Tryd.ntmps91
  go_wp2_with fail
  go_loopw [3] (fun i wr => ∃ k : Nat, i = .int .i64 k ∧ k ≤ l.length ∧ Hid ((l.take k).any closeF = false) ∧ Below w.heap.size w wr) (fun i _ => l.length - (intOf i).toNat)
  case atStart => exact ⟨0, rfl, by omega, hide (by simp), Below.refl _ _⟩
  case round =>
    obtain ⟨k, rfl, hk, HT, hb⟩ := hrel
    rename World => W0
    by_cases hlt : k < l.length
    · obtain ⟨b, o, rfl, hbl, q0, q1⟩ := HR.out.fld k hlt
      have c0 := (hb.cell (p := ⟨b, o + k * 2, none⟩) hbl).trans q0
      obtain ⟨f, hf⟩ : ∃ f, l[k] = f := ⟨_, rfl⟩
      have hok := HL.out l[k] (List.getElem_mem hlt)
      rw [hf] at c0 q1 hok
      have cS := fun w => rSame (bs f.1) ⟨#[99, 111, 110, 110, 101, 99, 116, 105, 111, 110]⟩ w (by rw [bs_size]; omega) (by decide)
      have cH := fun w => rHolds (bs f.2) clos w (by rw [bs_size]; omega) (by decide)
      rw [bs_list] at cS cH
      rw [show lowL (⟨#[99, 111, 110, 110, 101, 99, 116, 105, 111, 110]⟩ : ByteArray).data.toList = lowL conn.data.toList by decide] at cS
      obtain ⟨S, hS⟩ : ∃ S, (lowL f.1 == lowL conn.data.toList) = S := ⟨_, rfl⟩
      obtain ⟨⟨T, E⟩, hT⟩ : ∃ y, holdsT f.2 clos.data.toList = y := ⟨_, rfl⟩
      have hE : closeF f = (S && (T || E != 0)) := by unfold closeF; rw [hS, hT]
      rw [hS] at cS
      rw [hT] at cH
      unfold clos at cH
      have CS := Lib.hid cS
      have CH := Lib.hid cH
      have HF := Lib.hid (And.intro hf (And.intro hE q1))
      clear q0 q1 cS cH hS hT hf hE hok
      have NEXT : closeF f = false → Hid ((l.take (k + 1)).any closeF = false) := fun h => by
        refine hide ?_
        rw [List.take_succ_eq_append_getElem hlt, List.any_append, HT.out, HF.out.1]
        simp [h]
      have HIT : closeF f = true → X = true := fun h => by
        rw [← HX.out, List.any_eq_true]
        exact ⟨l[k], List.getElem_mem hlt, by rw [HF.out.1]; exact h⟩
      have HN := Lib.hid (And.intro NEXT HIT)
      clear NEXT HIT
      cases S with
      | false =>
        have HT' := HN.out.1 (by rw [HF.out.2.1]; rfl)
        go_wp2_with fail
        (with_reducible refine (CS.out _).mono ?_); rintro e w1 ⟨rfl, hb1⟩
        have hbX := hb.trans (hb1.mono hb.size)
        clear hb1
        go_wp2_with fail
        go_roundw
        case rel => exact ⟨k + 1, by go_num, by omega, HT', hbX⟩
        case measure => simp [intOf]; omega
      | true =>
        go_wp2_with fail
        (with_reducible refine (CS.out _).mono ?_); rintro e w1 ⟨rfl, hb1⟩
        have hbX := hb.trans (hb1.mono hb.size)
        have c1 := (hbX.cell (p := ⟨b, o + k * 2 + 1, none⟩) hbl).trans HF.out.2.2
        clear hb1 c0
        go_wp2_with fail
        (with_reducible refine (CH.out _).mono ?_); rintro e w2 ⟨rfl, hb2⟩
        have hbY := hbX.trans (hb2.mono hbX.size)
        clear hb2 c1
        by_cases hE : E = 0
        · subst hE
          have e1 : (((0 : Nat) : Int) != 0) = false := rfl
          cases T with
          | false =>
            have HT' := HN.out.1 (by rw [HF.out.2.1]; rfl)
            go_wp2_with fail
            go_roundw
            case rel => exact ⟨k + 1, by go_num, by omega, HT', hbY⟩
            case measure => simp [intOf]; omega
          | true =>
            obtain rfl := HN.out.2 (by rw [HF.out.2.1]; rfl)
            go_wp2_with fail
            go_ret
            exact ⟨rfl, hbY⟩
        · have e1 : ((E : Int) != 0) = true := by rw [bne_iff_ne]; omega
          obtain rfl := HN.out.2 (by rw [HF.out.2.1, ← cast_bne, e1]; simp)
          go_wp2_with fail
          go_ret
          exact ⟨rfl, hbY⟩
    · have hkl : k = l.length := by omega
      subst hkl
      have hd2 : decide ((l.length : Int) < (l.length : Int)) = false := by simp
      have hX : X = false := by have := HT.out; rw [List.take_length] at this; rw [← HX.out, this]
      subst hX
      go_wp2_with fail
      go_ret
      exact ⟨rfl, hb⟩

set_option maxRecDepth 100000 in
set_option maxHeartbeats 8000000 in
theorem rRun (l : Lk) (A : Option Addr) (n c : Nat) (es : List Ev) (w : World) (hr : Reads w w.heap.size 3 A n (evsC es)) (hn : n ≤ 1000000) :
    Calls Tryd.prog 89 #[lkV l, .slice A n c] w fun e w' => e = .returned (.tuple #[lkV (runV l es).1, .int .i64 (runV l es).2.1, .int .i64 (runV l es).2.2]) ∧ Below w.heap.size w w' := by
  obtain rfl := hr.elen
  obtain ⟨s, a, m, d⟩ := l
  obtain ⟨R, hR⟩ : ∃ R, runV (s, a, m, d) es = R := ⟨_, rfl⟩
  rw [hR]
  unfold runV ckL at hR
  have cC := fun w => rCheck13 s a m d w
  obtain ⟨C, hC⟩ : ∃ C, chkL s a m d = C := ⟨_, rfl⟩
  simp only at hR
  rw [hC] at cC hR
  have CC := Lib.hid cC
  have HR := Lib.hid hr
  unfold lkV linkV at *
  clear cC hC hr
  simp only
  by_cases h0 : C ≠ 0
  · rw [if_pos h0] at hR
    subst hR
    have e2 : ((C : Int) != 0) = true := by rw [bne_iff_ne]; omega
    go_enter Tryd.func89, Tryd.ntmps89
    go_wp2_with fail
    (with_reducible refine (CC.out _).mono ?_); rintro e w5 ⟨rfl, g5⟩
    have hB5 : Blk w5 (w.heap.size + 1) 76 #[.int .i64 0, .bool false, .int .i64 0, .int .i64 0] := Blk.below (blk_at _ (by simp)) g5 (by simp)
    have h1 := (Below.refl w.heap.size w).alloc (Nat.le_refl _) (.cells #[.int .i64 s, .bool a, .int .i64 m, .int .i64 d] 76)
    have h2 := h1.alloc h1.size (.cells #[.int .i64 0, .bool false, .int .i64 0, .int .i64 0] 76)
    have hbX := h2.trans (g5.mono h2.size)
    have d0 : w5.cell? ⟨w.heap.size + 1, 0, none⟩ = some (.int .i64 0) := hB5.cell 0
    have d1 : w5.cell? ⟨w.heap.size + 1, 1, none⟩ = some (.bool false) := hB5.cell 1
    have d2 : w5.cell? ⟨w.heap.size + 1, 2, none⟩ = some (.int .i64 0) := hB5.cell 2
    have d3 : w5.cell? ⟨w.heap.size + 1, 3, none⟩ = some (.int .i64 0) := hB5.cell 3
    have f0 := hB5.frozen 0
    have f1 := hB5.frozen 1
    have f2 := hB5.frozen 2
    have f3 := hB5.frozen 3
    have HB := Lib.hid (And.intro hB5 hbX)
    clear hB5 hbX g5 h1 h2
    go_wp2_with fail
    refine bodyPost_ret (results_cell_row_tmp2 (p := 4) (u := 5) (v := 6) (ty := 76) (by kernel_rfl) _ _ (w.heap.size + 1) 76 #[.int .i64 0, .bool false, .int .i64 0, .int .i64 0] (0, 0) _ rfl ((((HB.out.1.set_ 0 _).set_ 1 _).set_ 2 _).set_ 3 _) Tryd.underlying76 rfl (by kernel_rfl)) rfl ?_
    exact ⟨rfl, (((HB.out.2.setCell (by simp) _).setCell (by simp) _).setCell (by simp) _).setCell (by simp) _⟩
  · have hC0 : C = 0 := by omega
    subst hC0
    rw [if_neg (by simp)] at hR
    have HX := Lib.hid hR
    clear hR h0
    go_enter Tryd.func89, Tryd.ntmps89
    go_wp2_with fail
    (with_reducible refine (CC.out _).mono ?_); rintro e w1 ⟨rfl, g5⟩
    have kL : Blk w1 w.heap.size 76 #[.int .i64 s, .bool a, .int .i64 m, .int .i64 d] := Blk.below (Blk.alloc (Blk.new w _ _) _) g5 (by simp; omega)
    have kZ : Blk w1 (w.heap.size + 1) 76 #[.int .i64 0, .bool false, .int .i64 0, .int .i64 0] := Blk.below (blk_at _ (by simp)) g5 (by simp)
    have h1 := (Below.refl w.heap.size w).alloc (Nat.le_refl _) (.cells #[.int .i64 s, .bool a, .int .i64 m, .int .i64 d] 76)
    have h2 := h1.alloc h1.size (.cells #[.int .i64 0, .bool false, .int .i64 0, .int .i64 0] 76)
    have hbX := h2.trans (g5.mono h2.size)
    have HB := Lib.hid (And.intro kL (And.intro kZ hbX))
    clear kL kZ g5 h1 h2 hbX
    go_wp2_with fail
    go_loopw [8] (fun i wr => ∃ k : Nat, i = .int .i64 k ∧ k ≤ es.length ∧ Hid (okT (s, a, m, d) (es.take k) ∧ Blk wr w.heap.size 76 (lkC (aft (s, a, m, d) (es.take k))) ∧ Blk wr (w.heap.size + 1) 76 #[.int .i64 0, .bool false, .int .i64 0, .int .i64 0] ∧ Below w.heap.size w wr)) (fun i _ => es.length - (intOf i).toNat)
    case atStart => exact ⟨0, rfl, by omega, hide ⟨trivial, HB.out⟩⟩
    case round =>
      obtain ⟨k, rfl, hk, HT⟩ := hrel
      rename World => W0
      by_cases hlt : k < es.length
      · obtain ⟨b, o, rfl, hbl, hq⟩ := HR.out.ev (by omega)
        obtain ⟨q0, q1, q2⟩ := hq k hlt
        obtain ⟨hok, kL, kZ, hb⟩ := HT.out
        obtain ⟨ev, hev⟩ : ∃ ev, es[k] = ev := ⟨_, rfl⟩
        rw [hev] at q0 q1 q2
        obtain ⟨ek, ecd, ecl⟩ := ev
        obtain ⟨L, hL⟩ : ∃ L, aft (s, a, m, d) (es.take k) = L := ⟨_, rfl⟩
        rw [hL] at kL
        obtain ⟨s1, a1, m1, d1⟩ := L
        have cS := fun w => rStep s1 a1 m1 d1 ek ecd ecl w
        obtain ⟨E, hE⟩ : ∃ E, stepE s1 a1 m1 d1 ek ecd ecl = E := ⟨_, rfl⟩
        obtain ⟨N, hN⟩ : ∃ N, stepL s1 a1 m1 d1 ek ecd ecl = N := ⟨_, rfl⟩
        rw [hE, hN] at cS
        obtain ⟨s2, a2, m2, d2⟩ := N
        unfold lkV linkV evV at cS
        simp only at cS
        have S0 : Hid (∀ w', Below W0.heap.size W0 w' → (w'.cell? ⟨w.heap.size, 0, none⟩ = some (.int .i64 s1) ∧ w'.cell? ⟨w.heap.size, 1, none⟩ = some (.bool a1) ∧ w'.cell? ⟨w.heap.size, 2, none⟩ = some (.int .i64 m1) ∧ w'.cell? ⟨w.heap.size, 3, none⟩ = some (.int .i64 d1)) ∧ w'.cell? ⟨b, o + k * 3, none⟩ = some (.int .i64 ek) ∧ w'.cell? ⟨b, o + k * 3 + 1, none⟩ = some (.int .i64 ecd) ∧ w'.cell? ⟨b, o + k * 3 + 2, none⟩ = some (.bool ecl)) := hide fun w' hw => by
          have hk' := kL.below hw kL.lt
          have hz := hb.size
          exact ⟨⟨hk'.cell 0, hk'.cell 1, hk'.cell 2, hk'.cell 3⟩, (hw.cell (p := ⟨b, o + k * 3, none⟩) (by simp only; omega)).trans ((hb.cell (p := ⟨b, o + k * 3, none⟩) hbl).trans q0), (hw.cell (p := ⟨b, o + k * 3 + 1, none⟩) (by simp only; omega)).trans ((hb.cell (p := ⟨b, o + k * 3 + 1, none⟩) hbl).trans q1), (hw.cell (p := ⟨b, o + k * 3 + 2, none⟩) (by simp only; omega)).trans ((hb.cell (p := ⟨b, o + k * 3 + 2, none⟩) hbl).trans q2)⟩
        have HI := Lib.hid (And.intro hok (And.intro kL (And.intro kZ (And.intro hb (And.intro hL (And.intro hE (And.intro hN hev)))))))
        have cA : Hid (∀ X, X = W0.drew → Calls Tryd.prog 92 #[.agg #[.int .i64 s1, .bool a1, .int .i64 m1, .int .i64 d1], .agg #[.int .i64 ek, .int .i64 ecd, .bool ecl]] X fun e w' => e = .returned (.tuple #[.agg #[.int .i64 s2, .bool a2, .int .i64 m2, .int .i64 d2], .int .i64 E]) ∧ Hid (Below W0.heap.size W0 w') ∧ ((w'.cell? ⟨w.heap.size, 0, none⟩ = some (.int .i64 s1) ∧ w'.cell? ⟨w.heap.size, 1, none⟩ = some (.bool a1) ∧ w'.cell? ⟨w.heap.size, 2, none⟩ = some (.int .i64 m1) ∧ w'.cell? ⟨w.heap.size, 3, none⟩ = some (.int .i64 d1)) ∧ w'.cell? ⟨b, o + k * 3, none⟩ = some (.int .i64 ek) ∧ w'.cell? ⟨b, o + k * 3 + 1, none⟩ = some (.int .i64 ecd) ∧ w'.cell? ⟨b, o + k * 3 + 2, none⟩ = some (.bool ecl))) := hide fun X hX => by
          subst hX
          exact (cS _).mono fun e w' ⟨he, hb'⟩ => ⟨he, hide ((Below.refl W0.heap.size W0).drew.trans hb'), S0.out _ ((Below.refl W0.heap.size W0).drew.trans hb')⟩
        have cB : Hid (∀ X, X = (W0.alloc (.cells #[.int .i64 0, .bool false, .int .i64 0, .int .i64 0] 76)).drew → Calls Tryd.prog 92 #[.agg #[.int .i64 s1, .bool a1, .int .i64 m1, .int .i64 d1], .agg #[.int .i64 ek, .int .i64 ecd, .bool ecl]] X fun e w' => e = .returned (.tuple #[.agg #[.int .i64 s2, .bool a2, .int .i64 m2, .int .i64 d2], .int .i64 E]) ∧ (Hid (Below W0.heap.size W0 w') ∧ Hid (Blk w' W0.heap.size 76 #[.int .i64 0, .bool false, .int .i64 0, .int .i64 0])) ∧ ((w'.cell? ⟨w.heap.size, 0, none⟩ = some (.int .i64 s1) ∧ w'.cell? ⟨w.heap.size, 1, none⟩ = some (.bool a1) ∧ w'.cell? ⟨w.heap.size, 2, none⟩ = some (.int .i64 m1) ∧ w'.cell? ⟨w.heap.size, 3, none⟩ = some (.int .i64 d1)) ∧ w'.cell? ⟨b, o + k * 3, none⟩ = some (.int .i64 ek) ∧ w'.cell? ⟨b, o + k * 3 + 1, none⟩ = some (.int .i64 ecd) ∧ w'.cell? ⟨b, o + k * 3 + 2, none⟩ = some (.bool ecl)) ∧ (w'.cell? ⟨W0.heap.size, 0, none⟩ = some (.int .i64 0) ∧ w'.cell? ⟨W0.heap.size, 1, none⟩ = some (.bool false) ∧ w'.cell? ⟨W0.heap.size, 2, none⟩ = some (.int .i64 0) ∧ w'.cell? ⟨W0.heap.size, 3, none⟩ = some (.int .i64 0)) ∧ w'.frozen? ⟨W0.heap.size, 0, none⟩ = false ∧ w'.frozen? ⟨W0.heap.size, 1, none⟩ = false ∧ w'.frozen? ⟨W0.heap.size, 2, none⟩ = false ∧ w'.frozen? ⟨W0.heap.size, 3, none⟩ = false) := hide fun X hX => by
          subst hX
          refine (cS _).mono fun e w' ⟨he, hb'⟩ => ?_
          have hx := ((Below.refl W0.heap.size W0).alloc (Nat.le_refl _) (.cells #[.int .i64 0, .bool false, .int .i64 0, .int .i64 0] 76)).drew.trans (hb'.mono (by simp))
          have hz : Blk w' W0.heap.size 76 #[.int .i64 0, .bool false, .int .i64 0, .int .i64 0] := Blk.below (Blk.drew (blk_at W0 rfl)) hb' (by simp)
          exact ⟨he, ⟨hide hx, hide hz⟩, S0.out _ hx, ⟨hz.cell 0, hz.cell 1, hz.cell 2, hz.cell 3⟩, hz.frozen 0, hz.frozen 1, hz.frozen 2, hz.frozen 3⟩
        obtain ⟨⟨c0, c1, c2, c3⟩, x0, x1, x2⟩ := S0.out W0 (Below.refl _ _)
        have n1 : w.heap.size ≠ W0.heap.size := Nat.ne_of_lt kL.lt
        have n2 : b ≠ W0.heap.size := by have := hb.size; omega
        have n3 : W0.heap.size ≠ w.heap.size := n1.symm
        have n4 : W0.heap.size ≠ b := n2.symm
        clear q0 q1 q2 hq hok kL kZ hb hL hE hN hev cS
        go_wp2_with fail
        go_region_held3 (fun w' => (w'.cell? ⟨w.heap.size, 0, none⟩ = some (.int .i64 s1) ∧ w'.cell? ⟨w.heap.size, 1, none⟩ = some (.bool a1) ∧ w'.cell? ⟨w.heap.size, 2, none⟩ = some (.int .i64 m1) ∧ w'.cell? ⟨w.heap.size, 3, none⟩ = some (.int .i64 d1)) ∧ w'.cell? ⟨b, o + k * 3, none⟩ = some (.int .i64 ek) ∧ w'.cell? ⟨b, o + k * 3 + 1, none⟩ = some (.int .i64 ecd) ∧ w'.cell? ⟨b, o + k * 3 + 2, none⟩ = some (.bool ecl)) (go_keep)
          (first | (go_at_call 92; (with_reducible refine (cA.out _ rfl).mono ?_); rintro r w5 ⟨rfl, HB5, ⟨j0, j1, j2, j3⟩, y0, y1, y2⟩)
                 | (go_at_call 92; (with_reducible refine (cB.out _ rfl).mono ?_); rintro r w5 ⟨rfl, ⟨HB5, HZ5⟩, ⟨⟨j0, j1, j2, j3⟩, y0, y1, y2⟩, ⟨z0, z1, z2, z3⟩, u0, u1, u2, u3⟩))
        · have hX1 := HB5.out.alloc HB5.out.size (.cells #[.int .i64 s2, .bool a2, .int .i64 m2, .int .i64 d2] 76)
          have kN := Blk.new w5 76 #[.int .i64 s2, .bool a2, .int .i64 m2, .int .i64 d2]
          clear j0 j1 j2 j3 y0 y1 y2
          generalize w5.alloc (.cells #[.int .i64 s2, .bool a2, .int .i64 m2, .int .i64 d2] 76) = W6 at hX1 kN ⊢
          generalize w5.heap.size = G at kN ⊢
          have HK := Lib.hid (And.intro hX1 kN)
          have kL6 := HI.out.2.1.below hX1 HI.out.2.1.lt
          have kZ6 := HI.out.2.2.1.below hX1 HI.out.2.2.1.lt
          have hb6 := HI.out.2.2.2.1.trans (hX1.mono HI.out.2.2.2.1.size)
          have c0 : W6.cell? ⟨w.heap.size, 0, none⟩ = some (.int .i64 s1) := kL6.cell 0
          have c1 : W6.cell? ⟨w.heap.size, 1, none⟩ = some (.bool a1) := kL6.cell 1
          have c2 : W6.cell? ⟨w.heap.size, 2, none⟩ = some (.int .i64 m1) := kL6.cell 2
          have c3 : W6.cell? ⟨w.heap.size, 3, none⟩ = some (.int .i64 d1) := kL6.cell 3
          have f0 := kL6.frozen 0
          have f1 := kL6.frozen 1
          have f2 := kL6.frozen 2
          have f3 := kL6.frozen 3
          have y0 : W6.cell? ⟨G, 0, none⟩ = some (.int .i64 s2) := kN.cell 0
          have y1 : W6.cell? ⟨G, 1, none⟩ = some (.bool a2) := kN.cell 1
          have y2 : W6.cell? ⟨G, 2, none⟩ = some (.int .i64 m2) := kN.cell 2
          have y3 : W6.cell? ⟨G, 3, none⟩ = some (.int .i64 d2) := kN.cell 3
          have q0 : W6.cell? ⟨w.heap.size + 1, 0, none⟩ = some (.int .i64 0) := kZ6.cell 0
          have q1 : W6.cell? ⟨w.heap.size + 1, 1, none⟩ = some (.bool false) := kZ6.cell 1
          have q2 : W6.cell? ⟨w.heap.size + 1, 2, none⟩ = some (.int .i64 0) := kZ6.cell 2
          have q3 : W6.cell? ⟨w.heap.size + 1, 3, none⟩ = some (.int .i64 0) := kZ6.cell 3
          have g0 := kZ6.frozen 0
          have g1 := kZ6.frozen 1
          have g2 := kZ6.frozen 2
          have g3 := kZ6.frozen 3
          have H6 := Lib.hid (And.intro kL6 (And.intro kZ6 hb6))
          clear kL6 kZ6 hb6 hX1 kN n1 n2 n3 n4
          by_cases hE0 : E = 0
          · subst hE0
            have e1 : (((0 : Nat) : Int) != 0) = false := rfl
            go_wp2_with fail
            go_roundw
            case rel =>
              refine ⟨k + 1, by go_num, by omega, hide ?_⟩
              obtain ⟨hok, _, _, _, hL, hE, hN, hev⟩ := HI.out
              rw [List.take_succ_eq_append_getElem hlt, hev, okT_snoc, aft_snoc, hL]
              refine ⟨⟨hok, hE⟩, ?_, ?_, ?_⟩
              · rw [show stL (s1, a1, m1, d1) (ek, ecd, ecl) = (s2, a2, m2, d2) from hN]
                exact (((H6.out.1.set_ 0 _).set_ 1 _).set_ 2 _).set_ 3 _
              · exact (((H6.out.2.1.far (by simp) _).far (by simp) _).far (by simp) _).far (by simp) _
              · exact (((H6.out.2.2.setCell (p := ⟨w.heap.size, 0, none⟩) (Nat.le_refl _) _).setCell (p := ⟨w.heap.size, 1, none⟩) (Nat.le_refl _) _).setCell (p := ⟨w.heap.size, 2, none⟩) (Nat.le_refl _) _).setCell (p := ⟨w.heap.size, 3, none⟩) (Nat.le_refl _) _
            case measure => simp [intOf]; omega
          · have e1 : ((E : Int) != 0) = true := by rw [bne_iff_ne]; omega
            have hres : R = ((s1, a1, m1, d1), k, E) := by
              obtain ⟨hok, _, _, _, hL, hE, hN, hev⟩ := HI.out
              have hst : stE (aft (s, a, m, d) (es.take k)) (ek, ecd, ecl) = E := by rw [hL]; exact hE
              have hspl : es = es.take k ++ (ek, ecd, ecl) :: es.drop (k + 1) := by
                rw [← hev, ← List.drop_eq_getElem_cons hlt, List.take_append_drop]
              have h := runT_stop (s, a, m, d) (es.take k) (es.drop (k + 1)) (ek, ecd, ecl) hok (by rw [hst]; exact hE0)
              rw [← hspl, List.length_take, Nat.min_eq_left (by omega), hst, hL] at h
              rw [← HX.out, h]
            subst hres
            go_wp2_with fail
            refine bodyPost_ret (results_cell_row_tmp2 (p := 4) (u := 5) (v := 6) (ty := 76) (by kernel_rfl) _ _ (w.heap.size + 1) 76 #[.int .i64 s1, .bool a1, .int .i64 m1, .int .i64 d1] (0, 0) _ rfl ((((H6.out.2.1.set_ 0 _).set_ 1 _).set_ 2 _).set_ 3 _) Tryd.underlying76 rfl (by kernel_rfl)) rfl ?_
            exact ⟨rfl, (((H6.out.2.2.setCell (by simp) _).setCell (by simp) _).setCell (by simp) _).setCell (by simp) _⟩
        · have hX1 := (((HB5.out.setCell (p := ⟨W0.heap.size, 0, none⟩) (Nat.le_refl _) (.int .i64 s2)).setCell (p := ⟨W0.heap.size, 1, none⟩) (Nat.le_refl _) (.bool a2)).setCell (p := ⟨W0.heap.size, 2, none⟩) (Nat.le_refl _) (.int .i64 m2)).setCell (p := ⟨W0.heap.size, 3, none⟩) (Nat.le_refl _) (.int .i64 d2)
          have kN : Blk ((((w5.setCell ⟨W0.heap.size, 0, none⟩ (.int .i64 s2)).setCell ⟨W0.heap.size, 1, none⟩ (.bool a2)).setCell ⟨W0.heap.size, 2, none⟩ (.int .i64 m2)).setCell ⟨W0.heap.size, 3, none⟩ (.int .i64 d2)) W0.heap.size 76 #[.int .i64 s2, .bool a2, .int .i64 m2, .int .i64 d2] := (((HZ5.out.set_ 0 _).set_ 1 _).set_ 2 _).set_ 3 _
          clear j0 j1 j2 j3 y0 y1 y2 z0 z1 z2 z3 u0 u1 u2 u3
          generalize (((w5.setCell ⟨W0.heap.size, 0, none⟩ (.int .i64 s2)).setCell ⟨W0.heap.size, 1, none⟩ (.bool a2)).setCell ⟨W0.heap.size, 2, none⟩ (.int .i64 m2)).setCell ⟨W0.heap.size, 3, none⟩ (.int .i64 d2) = W6 at hX1 kN ⊢
          obtain ⟨G, hG⟩ : ∃ G, W0.heap.size = G := ⟨_, rfl⟩
          rw [hG] at kN ⊢
          have HK := Lib.hid (And.intro hX1 kN)
          have kL6 := HI.out.2.1.below hX1 HI.out.2.1.lt
          have kZ6 := HI.out.2.2.1.below hX1 HI.out.2.2.1.lt
          have hb6 := HI.out.2.2.2.1.trans (hX1.mono HI.out.2.2.2.1.size)
          have c0 : W6.cell? ⟨w.heap.size, 0, none⟩ = some (.int .i64 s1) := kL6.cell 0
          have c1 : W6.cell? ⟨w.heap.size, 1, none⟩ = some (.bool a1) := kL6.cell 1
          have c2 : W6.cell? ⟨w.heap.size, 2, none⟩ = some (.int .i64 m1) := kL6.cell 2
          have c3 : W6.cell? ⟨w.heap.size, 3, none⟩ = some (.int .i64 d1) := kL6.cell 3
          have f0 := kL6.frozen 0
          have f1 := kL6.frozen 1
          have f2 := kL6.frozen 2
          have f3 := kL6.frozen 3
          have y0 : W6.cell? ⟨G, 0, none⟩ = some (.int .i64 s2) := kN.cell 0
          have y1 : W6.cell? ⟨G, 1, none⟩ = some (.bool a2) := kN.cell 1
          have y2 : W6.cell? ⟨G, 2, none⟩ = some (.int .i64 m2) := kN.cell 2
          have y3 : W6.cell? ⟨G, 3, none⟩ = some (.int .i64 d2) := kN.cell 3
          have q0 : W6.cell? ⟨w.heap.size + 1, 0, none⟩ = some (.int .i64 0) := kZ6.cell 0
          have q1 : W6.cell? ⟨w.heap.size + 1, 1, none⟩ = some (.bool false) := kZ6.cell 1
          have q2 : W6.cell? ⟨w.heap.size + 1, 2, none⟩ = some (.int .i64 0) := kZ6.cell 2
          have q3 : W6.cell? ⟨w.heap.size + 1, 3, none⟩ = some (.int .i64 0) := kZ6.cell 3
          have g0 := kZ6.frozen 0
          have g1 := kZ6.frozen 1
          have g2 := kZ6.frozen 2
          have g3 := kZ6.frozen 3
          have H6 := Lib.hid (And.intro kL6 (And.intro kZ6 hb6))
          clear kL6 kZ6 hb6 hX1 kN n1 n2 n3 n4
          by_cases hE0 : E = 0
          · subst hE0
            have e1 : (((0 : Nat) : Int) != 0) = false := rfl
            go_wp2_with fail
            go_roundw
            case rel =>
              refine ⟨k + 1, by go_num, by omega, hide ?_⟩
              obtain ⟨hok, _, _, _, hL, hE, hN, hev⟩ := HI.out
              rw [List.take_succ_eq_append_getElem hlt, hev, okT_snoc, aft_snoc, hL]
              refine ⟨⟨hok, hE⟩, ?_, ?_, ?_⟩
              · rw [show stL (s1, a1, m1, d1) (ek, ecd, ecl) = (s2, a2, m2, d2) from hN]
                exact (((H6.out.1.set_ 0 _).set_ 1 _).set_ 2 _).set_ 3 _
              · exact (((H6.out.2.1.far (by simp) _).far (by simp) _).far (by simp) _).far (by simp) _
              · exact (((H6.out.2.2.setCell (p := ⟨w.heap.size, 0, none⟩) (Nat.le_refl _) _).setCell (p := ⟨w.heap.size, 1, none⟩) (Nat.le_refl _) _).setCell (p := ⟨w.heap.size, 2, none⟩) (Nat.le_refl _) _).setCell (p := ⟨w.heap.size, 3, none⟩) (Nat.le_refl _) _
            case measure => simp [intOf]; omega
          · have e1 : ((E : Int) != 0) = true := by rw [bne_iff_ne]; omega
            have hres : R = ((s1, a1, m1, d1), k, E) := by
              obtain ⟨hok, _, _, _, hL, hE, hN, hev⟩ := HI.out
              have hst : stE (aft (s, a, m, d) (es.take k)) (ek, ecd, ecl) = E := by rw [hL]; exact hE
              have hspl : es = es.take k ++ (ek, ecd, ecl) :: es.drop (k + 1) := by
                rw [← hev, ← List.drop_eq_getElem_cons hlt, List.take_append_drop]
              have h := runT_stop (s, a, m, d) (es.take k) (es.drop (k + 1)) (ek, ecd, ecl) hok (by rw [hst]; exact hE0)
              rw [← hspl, List.length_take, Nat.min_eq_left (by omega), hst, hL] at h
              rw [← HX.out, h]
            subst hres
            go_wp2_with fail
            refine bodyPost_ret (results_cell_row_tmp2 (p := 4) (u := 5) (v := 6) (ty := 76) (by kernel_rfl) _ _ (w.heap.size + 1) 76 #[.int .i64 s1, .bool a1, .int .i64 m1, .int .i64 d1] (0, 0) _ rfl ((((H6.out.2.1.set_ 0 _).set_ 1 _).set_ 2 _).set_ 3 _) Tryd.underlying76 rfl (by kernel_rfl)) rfl ?_
            exact ⟨rfl, (((H6.out.2.2.setCell (by simp) _).setCell (by simp) _).setCell (by simp) _).setCell (by simp) _⟩
      · have hkl : k = es.length := by omega
        subst hkl
        have hd2 : decide ((es.length : Int) < (es.length : Int)) = false := by simp
        obtain ⟨hok, kL, kZ, hb⟩ := HT.out
        rw [List.take_length] at hok kL
        have hX := HX.out
        rw [runT_all _ _ hok] at hX
        obtain ⟨L, hL⟩ : ∃ L, aft (s, a, m, d) es = L := ⟨_, rfl⟩
        rw [hL] at kL hX
        obtain ⟨s1, a1, m1, d1⟩ := L
        subst hX
        have c0 : W0.cell? ⟨w.heap.size, 0, none⟩ = some (.int .i64 s1) := kL.cell 0
        have c1 : W0.cell? ⟨w.heap.size, 1, none⟩ = some (.bool a1) := kL.cell 1
        have c2 : W0.cell? ⟨w.heap.size, 2, none⟩ = some (.int .i64 m1) := kL.cell 2
        have c3 : W0.cell? ⟨w.heap.size, 3, none⟩ = some (.int .i64 d1) := kL.cell 3
        have q0 : W0.cell? ⟨w.heap.size + 1, 0, none⟩ = some (.int .i64 0) := kZ.cell 0
        have q1 : W0.cell? ⟨w.heap.size + 1, 1, none⟩ = some (.bool false) := kZ.cell 1
        have q2 : W0.cell? ⟨w.heap.size + 1, 2, none⟩ = some (.int .i64 0) := kZ.cell 2
        have q3 : W0.cell? ⟨w.heap.size + 1, 3, none⟩ = some (.int .i64 0) := kZ.cell 3
        have g0 := kZ.frozen 0
        have g1 := kZ.frozen 1
        have g2 := kZ.frozen 2
        have g3 := kZ.frozen 3
        have H6 := Lib.hid (And.intro kZ hb)
        clear kL kZ hb hok hL
        go_wp2_with fail
        refine bodyPost_ret (results_cell_row_tmp2 (p := 4) (u := 5) (v := 6) (ty := 76) (by kernel_rfl) _ _ (w.heap.size + 1) 76 #[.int .i64 s1, .bool a1, .int .i64 m1, .int .i64 d1] (0, 0) _ rfl ((((H6.out.1.set_ 0 _).set_ 1 _).set_ 2 _).set_ 3 _) Tryd.underlying76 rfl (by kernel_rfl)) rfl ?_
        exact ⟨rfl, (((H6.out.2.setCell (by simp) _).setCell (by simp) _).setCell (by simp) _).setCell (by simp) _⟩
end Go.Proofs.YtepemdmjbfoiaaaDoor
