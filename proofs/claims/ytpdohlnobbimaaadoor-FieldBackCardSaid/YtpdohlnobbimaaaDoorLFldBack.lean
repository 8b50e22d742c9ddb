/-
  FieldBack, the law.
-/
import Derived.Test.YtpdohlnobbimaaaDoorFpP
namespace Go.Proofs.YtpdohlnobbimaaaDoor
open Go.RowKit

def sumV (l : List Fld) (N : List (List UInt8)) : Nat := (N.map fun nm => (valuesL nm l).length).sum
theorem sumV_snoc (l : List Fld) (N : List (List UInt8)) (y : List UInt8) : sumV l (N ++ [y]) = sumV l N + (valuesL y l).length := by
  unfold sumV; simp
theorem sumV_le (l : List Fld) (N : List (List UInt8)) : sumV l N ≤ N.length * l.length := by
  induction N with
  | nil => simp [sumV]
  | cons y N ih =>
    have h1 : sumV l (y :: N) = (valuesL y l).length + sumV l N := by simp [sumV]
    have := valuesL_len y l
    rw [h1, List.length_cons, Nat.succ_mul]
    omega
theorem sumV_cons (f : Fld) (l : List Fld) (N : List (List UInt8)) : sumV (f :: l) N = N.countP (fun nm => sameN nm f) + sumV l N := by
  induction N with
  | nil => simp [sumV]
  | cons y N ih =>
    have h1 : ∀ l, sumV l (y :: N) = (valuesL y l).length + sumV l N := fun l => by simp [sumV]
    rw [h1, h1, ih, List.countP_cons]
    unfold valuesL
    rw [List.filter_cons]
    cases sameN y f <;> simp <;> omega
theorem nodup_ne {N : List (List UInt8)} (h : N.Nodup) {i j : Nat} (hij : i < j) (hj : j < N.length) : N[i]'(by omega) ≠ N[j] :=
  List.pairwise_iff_getElem.1 (List.nodup_iff_pairwise_ne.1 h) i j (by omega) hj hij
theorem count_one (N : List (List UInt8)) (y : List UInt8) (hd : N.Nodup) (hm : y ∈ N) : N.countP (fun nm => y == nm) = 1 := by
  induction N with
  | nil => simp at hm
  | cons x N ih =>
    rw [List.nodup_cons] at hd
    rw [List.countP_cons]
    rcases List.mem_cons.1 hm with rfl | h
    · have : N.countP (fun nm => y == nm) = 0 := by
        rw [List.countP_eq_zero]
        intro a ha
        have : y ≠ a := fun e => hd.1 (e ▸ ha)
        simpa using this
      rw [this]; simp
    · have hne : (y == x) = false := beq_eq_false_iff_ne.2 (fun e => hd.1 (e ▸ h))
      rw [ih hd.2 h, hne]; simp
theorem names_facts (l : List Fld) : (namesL l).Nodup ∧ (∀ f ∈ l, lowL f.1 ∈ namesL l) ∧ ∀ y ∈ namesL l, ∃ f ∈ l, lowL f.1 = y := by
  have key : ∀ k, k ≤ l.length → (namesL (l.take k)).Nodup ∧ (∀ f ∈ l.take k, lowL f.1 ∈ namesL (l.take k)) ∧ ∀ y ∈ namesL (l.take k), ∃ f ∈ l.take k, lowL f.1 = y := by
    intro k
    induction k with
    | zero => intro _; simp [namesL]
    | succ k ih =>
      intro hk
      obtain ⟨h1, h2, h3⟩ := ih (by omega)
      rw [List.take_succ_eq_append_getElem (show k < l.length by omega), namesL_snoc]
      generalize l[k] = f at *
      generalize l.take k = t at *
      split
      · rename_i hc
        rw [List.contains_iff_mem] at hc
        refine ⟨h1, fun g hg => ?_, fun y hy => ?_⟩
        · rcases List.mem_append.1 hg with hg | hg
          · exact h2 g hg
          · simp at hg; subst hg; exact hc
        · obtain ⟨g, hg, e⟩ := h3 y hy
          exact ⟨g, List.mem_append_left _ hg, e⟩
      · rename_i hc
        rw [List.contains_iff_mem] at hc
        refine ⟨?_, fun g hg => ?_, fun y hy => ?_⟩
        · rw [List.nodup_append]
          refine ⟨h1, by simp, ?_⟩
          intro a ha b hb
          simp at hb
          subst hb
          exact fun e => hc (e ▸ ha)
        · rcases List.mem_append.1 hg with hg | hg
          · exact List.mem_append_left _ (h2 g hg)
          · simp at hg; subst hg; simp
        · rcases List.mem_append.1 hy with hy | hy
          · obtain ⟨g, hg, e⟩ := h3 y hy
            exact ⟨g, List.mem_append_left _ hg, e⟩
          · simp at hy; subst hy; exact ⟨f, by simp, rfl⟩
  have := key l.length (Nat.le_refl _)
  rwa [List.take_length] at this
theorem sumV_all (l : List Fld) : sumV l (namesL l) = l.length := by
  obtain ⟨h1, h2, h3⟩ := names_facts l
  have hlow : ∀ y ∈ namesL l, lowL y = y := fun y hy => by
    obtain ⟨f, _, e⟩ := h3 y hy
    rw [← e, lowL_low]
  generalize namesL l = N at *
  clear h3
  induction l with
  | nil => clear h1 h2 hlow; induction N with
    | nil => rfl
    | cons y N ih => have : sumV [] (y :: N) = (valuesL y []).length + sumV [] N := by simp [sumV]
                     rw [this, ih]; simp [valuesL]
  | cons f r ih =>
    rw [sumV_cons, ih (fun g hg => h2 g (List.mem_cons_of_mem _ hg)), List.length_cons]
    have hc : N.countP (fun nm => sameN nm f) = N.countP (fun nm => lowL f.1 == nm) := by
      apply List.countP_congr
      intro y hy
      unfold sameN
      rw [hlow y hy]
    rw [hc, count_one N (lowL f.1) h1 (h2 f List.mem_cons_self)]
    omega
theorem name_made {l : List Fld} (h : okF l) (y : List UInt8) (hy : y ∈ namesL l) : askL l [y] = 0 ∧ y.length ≤ 100 ∧ ∃ v r, allL y l = v :: r := by
  obtain ⟨h1, h2, h3⟩ := names_facts l
  obtain ⟨f, hf, e⟩ := h3 y hy
  have hm := h.2 f hf
  have k1 : ∀ a ∈ nmT, isTok (lowL a) = true := by decide +kernel
  have ht : isTok y = true := by rw [← e]; exact k1 f.1 hm.1
  have hask := okF_ask h [y] (by simp [ht])
  refine ⟨hask, ?_, ?_⟩
  · rw [← e]; unfold lowL; rw [List.length_map]; exact (madeF_len f hm).1
  · rw [allL_ok hask]
    cases hv : valuesL y l with
    | nil =>
      exfalso
      unfold valuesL at hv
      rw [List.map_eq_nil_iff, List.filter_eq_nil_iff] at hv
      apply hv f hf
      unfold sameN
      rw [← e, lowL_low]
      simp
    | cons v r => exact ⟨v, r, rfl⟩
theorem allL_val {y : List UInt8} {l : List Fld} (h : askL l [y] = 0) : (allL y l).length = (valuesL y l).length := by rw [allL_ok h]

set_option maxRecDepth 100000 in
set_option maxHeartbeats 32000000 in
theorem FieldBack_true (A : Option Addr) (n c : Nat) (zs : List Int) (w : World) (hr : Reads w w.heap.size 1 A n (zs.map (Value.int .i64))) (hn : n ≤ 9223372036854775807) (hw : ∀ z ∈ zs, -9223372036854775808 ≤ z ∧ z ≤ 9223372036854775807) :
    Calls Tryd.prog 3 #[.slice A n c] w fun e w' => e = .returned (.bool true) ∧ Below w.heap.size w w' := by
  have FK := Lib.hid FieldKnown_true
  have C0 := Lib.hid (fun w hr => made06 A n c zs w hr hn hw)
  have HR := Lib.hid hr
  clear hr hn hw
  go_enter Tryd.func3, Tryd.ntmps3
  go_wp2_with fail
  (with_reducible refine (FK.out _).mono ?_); rintro e w1 ⟨rfl, g1⟩
  go_wp2_with fail
  (with_reducible refine (C0.out _ ((HR.out.below g1).more g1.size)).mono ?_); rintro e w2 ⟨B0, d0, l, rfl, hl, _, hm, hr2, g2⟩
  have h2 := g1.trans (g2.mono g1.size)
  have hL : okF l := ⟨by omega, hm⟩
  have cN := fun w hr => pNames B0 l.length d0 l w hr (by have := hL.1; omega) (okF_flds hL) (okF_ask hL [] rfl)
  have hNf := fun y hy => name_made hL y hy
  obtain ⟨hnd, _, _⟩ := names_facts l
  have hNs := sumV_all l
  have hNl := namesL_len l l.length (Nat.le_refl _)
  rw [List.take_length] at hNl
  obtain ⟨N, hN⟩ : ∃ y, namesL l = y := ⟨_, rfl⟩
  rw [hN] at cN hNf hnd hNs hNl
  have CN := Lib.hid cN
  have HR2 := Lib.hid hr2
  have hl20 := hL.1
  have HL := Lib.hid (And.intro hL (And.intro hnd hNs))
  have HF := Lib.hid hNf
  clear cN hN hr2 hl hm g1 g2 hnd hNs hNf HR C0 FK hL
  go_wp2_with fail
  (with_reducible refine (CN.out _ HR2.out).mono ?_); rintro e w3 ⟨A2, c2, rfl, _, hr3, g3⟩
  have h3 := h2.trans (g3.mono h2.size)
  have HS3 := Lib.hid (And.intro ((HR2.out.below g3).more g3.size) (And.intro hr3 h3))
  have d1 : decide ((l.length : Int) < (N.length : Int)) = false := by simp; omega
  have d2 : decide (l.length < N.length) = false := by simp; omega
  clear hr3 g3 h2 h3 CN HR2
  go_wp2_with fail
  go_loopw [7, 8] (fun s i wr => ∃ k : Nat, i = .int .i64 k ∧ k ≤ N.length ∧ s = .int .i64 (sumV l (N.take k)) ∧ Hid (Reads wr wr.heap.size 2 B0 l.length (fldsC l) ∧ Reads wr wr.heap.size 1 A2 N.length (strs N) ∧ Below w.heap.size w wr)) (fun _ i _ => N.length - (intOf i).toNat)
  case atStart => exact ⟨0, rfl, by omega, rfl, HS3⟩
  case round =>
    obtain ⟨k, rfl, hk, rfl, HS⟩ := hrel
    rename World => W0
    by_cases hlt : k < N.length
    · obtain ⟨b, o, rfl, hbl, c0⟩ := HS.out.2.1.text k hlt
      obtain ⟨nm, hnm⟩ : ∃ nm, N[k] = nm := ⟨_, rfl⟩
      have hf := HF.out nm (by rw [← hnm]; exact List.getElem_mem hlt)
      rw [hnm] at c0
      obtain ⟨ha, hln, v0, vr, hv⟩ := hf
      have hvl := allL_val ha
      have hsum : sumV l (N.take (k + 1)) = sumV l (N.take k) + (valuesL nm l).length := by
        rw [List.take_succ_eq_append_getElem hlt, hnm, sumV_snoc]
      rw [← hvl, hv] at hsum
      have hs1 := sumV_le l (N.take k)
      have hs2 : (N.take k).length * l.length ≤ 20 * 20 := Nat.mul_le_mul (by rw [List.length_take]; omega) hl20
      have hvr : (v0 :: vr).length ≤ 20 := by rw [← hv, hvl]; have := valuesL_len nm l; omega
      have cA := fun w hr => pAll B0 l.length d0 l (bs nm) w hr (by omega) (okF_flds HL.out.1) (by rw [bs_size]; omega)
      have cG := fun w hr => pGet B0 l.length d0 l (bs nm) w hr (by omega) (okF_flds HL.out.1) (by rw [bs_size]; omega)
      unfold AllPost at cA
      rw [bs_list, ha, hv] at cA
      rw [bs_list, ha, hv, show getT (v0 :: vr) = (v0, true) from rfl] at cG
      simp only at cG
      have CA := Lib.hid cA
      have CG := Lib.hid cG
      have i0 : (0 : Int) ≤ (k : Int) := by omega
      have i1 : (k : Int) < (N.length : Int) := by omega
      have HV := Lib.hid (And.intro hsum (And.intro hnm (And.intro (Nat.le_trans hs1 hs2) hvr)))
      clear cA cG ha hln hv hvl hsum hs1 hs2 hnm hvr
      go_wp2_with fail
      (with_reducible refine (CA.out _ HS.out.1).mono ?_); rintro e w4 ⟨A4, c4, rfl, _, hr4, g4⟩
      have k0 := (g4.cell (p := ⟨b, o + k, none⟩) hbl).trans c0
      have HS4 := Lib.hid (And.intro ((HS.out.1.below g4).more g4.size) (And.intro ((HS.out.2.1.below g4).more g4.size) (HS.out.2.2.trans (g4.mono HS.out.2.2.size))))
      have HR4 := Lib.hid hr4
      clear hr4 c0
      go_wp2_with fail
      (with_reducible refine (CG.out _ HS4.out.1).mono ?_); rintro e w5 ⟨rfl, g5⟩
      obtain ⟨b4, o4, rfl, _, q4⟩ := ((HR4.out.below g5).more g5.size).text 0 (by simp)
      have q4' : w5.cell? ⟨b4, o4, none⟩ = some (.string (bs v0)) := q4
      have HS5 := Lib.hid (And.intro ((HS4.out.1.below g5).more g5.size) (And.intro ((HS4.out.2.1.below g5).more g5.size) (HS4.out.2.2.trans (g5.mono HS4.out.2.2.size))))
      have z1 : ((vr.length : Int) + 1 == 0) = false := beq_eq_false_iff_ne.2 (by omega)
      have z2 : (0 : Int) < (vr.length : Int) + 1 := by omega
      have z3 : ((v0 :: vr).length : Int) = (vr.length : Int) + 1 := by simp
      have hsw : IntKind.i64.wrap ((sumV l (N.take k) : Int) + ((vr.length : Int) + 1)) = ((sumV l (N.take (k + 1)) : Nat) : Int) := by
        rw [IntKind.wrap_i64]
        have := HV.out.1
        have := HV.out.2.2.1
        have := HV.out.2.2.2
        simp only [List.length_cons] at *
        omega
      clear q4 k0 g4 g5 HS4 HR4 HS CA CG
      go_wp2_with fail
      go_loopw [14] (fun i wr => ∃ j m : Nat, i = .int .i64 j ∧ j ≤ k ∧ wr = w5.drewN m) (fun i _ => k - (intOf i).toNat)
      case atStart => exact ⟨0, 0, rfl, by omega, rfl⟩
      case round =>
        obtain ⟨j, m, rfl, hj, rfl⟩ := hrel
        by_cases hjk : j < k
        · have hjl : j < N.length := by omega
          obtain ⟨b1, o1, e1, _, c1⟩ := HS5.out.2.1.text j hjl
          cases e1
          obtain ⟨b2, o2, e2, _, c2⟩ := HS5.out.2.1.text k hlt
          cases e2
          rw [HV.out.2.1] at c2
          obtain ⟨nj, hnj⟩ : ∃ nj, N[j] = nj := ⟨_, rfl⟩
          rw [hnj] at c1
          have hne : nj ≠ nm := by
            rw [← hnj, ← HV.out.2.1]
            intro e
            exact nodup_ne HL.out.2.1 hjk hlt e
          have hq := ne_texts hne
          have j0 : (0 : Int) ≤ (j : Int) := by omega
          have j1 : (j : Int) < (N.length : Int) := by omega
          clear hne hnj
          go_wp2_with fail
          go_quiet (fail)
          go_wp2_with fail
          exact ⟨⟨j + 1, _, by go_num, by omega, rfl⟩, by simp [intOf]; omega⟩
        · obtain rfl : j = k := by omega
          have hd : decide ((j : Int) < (j : Int)) = false := by simp
          go_wp2_with fail
          go_roundw
          case rel => exact ⟨j + 1, by go_num, by omega, rfl, hide ⟨HS5.out.1.drewN m, HS5.out.2.1.drewN m, below_drewN HS5.out.2.2 m⟩⟩
          case measure => simp [intOf]; omega
    · obtain rfl : k = N.length := by omega
      have hd : decide ((N.length : Int) < (N.length : Int)) = false := by simp
      rw [List.take_length, HL.out.2.2]
      clear HF
      go_wp2_with fail
      go_loopw [15] (fun i wr => ∃ j : Nat, i = .int .i64 j ∧ j ≤ l.length ∧ Hid (Reads wr wr.heap.size 2 B0 l.length (fldsC l) ∧ Below w.heap.size w wr)) (fun i _ => l.length - (intOf i).toNat)
      case atStart => exact ⟨0, rfl, by omega, hide ⟨HS.out.1, HS.out.2.2⟩⟩
      case round =>
        obtain ⟨j, rfl, hj, HQ⟩ := hrel
        rename World => W1
        by_cases hjl : j < l.length
        · obtain ⟨b, o, rfl, hbl, q0, q1⟩ := HQ.out.1.fld j hjl
          obtain ⟨f, hf⟩ : ∃ f, l[j] = f := ⟨_, rfl⟩
          have hfm := HL.out.1.2 l[j] (List.getElem_mem hjl)
          rw [hf] at q0 q1 hfm
          have hfl := madeF_len f hfm
          have cL := fun w => pLine f w (by omega) (by omega) (madeF_one f hfm)
          have hll : (lineL f).length ≤ 1000 := by
            have : ∀ a ∈ nmT, ∀ b ∈ vaT, (lineL (a, b)).length ≤ 1000 := by decide +kernel
            exact this f.1 hfm.1 f.2 hfm.2
          have cR := fun w => reads_hit (bs (lineL f)) f w (by rw [bs_size]; omega) (by rw [bs_list]; exact madeF_back f hfm)
          have CL := Lib.hid cL
          have CR := Lib.hid cR
          have i0 : (0 : Int) ≤ (j : Int) := by omega
          have i1 : (j : Int) < (l.length : Int) := by omega
          have HC := Lib.hid (And.intro q0 (And.intro q1 hbl))
          clear cL cR hll hfl hf hfm
          go_wp2_with fail
          (with_reducible refine (CL.out _).mono ?_); rintro e w2 ⟨rfl, g2⟩
          clear q0 q1
          have q0 := (g2.cell (p := ⟨b, o + j * 2, none⟩) HC.out.2.2).trans HC.out.1
          have q1 := (g2.cell (p := ⟨b, o + j * 2 + 1, none⟩) HC.out.2.2).trans HC.out.2.1
          go_wp2_with fail
          (with_reducible refine (CR.out _).mono ?_); rintro e w3 ⟨rfl, g3⟩
          have HQ3 := Lib.hid (And.intro (((HQ.out.1.below g2).more g2.size).below g3 |>.more g3.size) ((HQ.out.2.trans (g2.mono HQ.out.2.size)).trans (g3.mono (Nat.le_trans HQ.out.2.size g2.size))))
          clear q0 q1 g2 g3 HC
          go_wp2_with fail
          go_roundw
          case rel => exact ⟨j + 1, by go_num, by omega, HQ3⟩
          case measure => simp [intOf]; omega
        · obtain rfl : j = l.length := by omega
          have hd2 : decide ((l.length : Int) < (l.length : Int)) = false := by simp
          have hb := HQ.out.2
          go_wp2_with fail
          go_ret
          exact ⟨rfl, hb⟩
end Go.Proofs.YtpdohlnobbimaaaDoor
