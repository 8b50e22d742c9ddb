/-
  The lengths of a request, by the program: the walk. Which body a request has, by the reference; Lengths and Chunked of the program. Which body a request has, by the program.
-/
import Derived.Test.YtencphfhpnljlaaGreatDoorWe1
import Derived.Test.YtencphfhpnljlaaGreatDoorWa
import Derived.BigQuiet
import Derived.Deep.QuietTactic
import Derived.Deep.Cut
namespace Go.Proofs.YtencphfhpnljlaaGreatDoor

section
open Go.RowKit Go.Shelf
attribute [local go_sem] Oper.semAt_some

set_option maxRecDepth 100000 in
set_option maxHeartbeats 16000000 in
theorem fLengths (A : Option Addr) (n c : Nat) (l : List Fld) (w : World) (hr : Reads w w.heap.size 2 A n (fldsC l)) (hn : n ≤ 1000) (hl : fldsS l) :
    Calls Tryz.prog 42 #[.agg #[.slice A n c]] w (LensPost (lensT (valuesL clN l)) w) := by
  obtain rfl := hr.flen
  have hb0 : Below w.heap.size w (w.alloc (.cells #[.slice A l.length c] 97)) := (Below.refl _ _).alloc (Nat.le_refl _) _
  have cN := fun w hr => fNamed A l.length c l ⟨#[67, 111, 110, 116, 101, 110, 116, 45, 76, 101, 110, 103, 116, 104]⟩ w hr (by omega) (fldsS_ok hl) (by decide)
  unfold TextsPost at cN
  rw [show (⟨#[67, 111, 110, 116, 101, 110, 116, 45, 76, 101, 110, 103, 116, 104]⟩ : ByteArray).data.toList = clN from rfl] at cN
  have hv := fldsS_values hl clN
  have hvl := valuesL_len clN l
  obtain ⟨V, hV⟩ : ∃ V, valuesL clN l = V := ⟨_, rfl⟩
  rw [hV] at cN hv hvl ⊢
  have hV1 : V.length ≤ 1000 := by omega
  obtain ⟨R, hR⟩ : ∃ R, lensT V = R := ⟨_, rfl⟩
  rw [hR]
  have CN := Lib.hid cN
  have HV := Lib.hid (And.intro hv (And.intro hR (pieces_take_len V hV1 hv)))
  have CS := Lib.hid (fun s w => SSeq_any s 44 w)
  -- the world in which the values are asked for
  obtain ⟨w4, hw4⟩ : ∃ w4, (((w.alloc (.cells #[.slice A l.length c] 97)).alloc (.cells #[.slice none 0 0] 22)).alloc (.cells #[.int .i64 0] 28)).alloc (.cells #[.slice none 0 0] 22) = w4 := ⟨_, rfl⟩
  have hs4 : w4.heap.size = w.heap.size + 4 := by rw [← hw4]; simp
  have hB4 : Below w.heap.size w w4 := by
    rw [← hw4]
    exact (((hb0.alloc hb0.size _).alloc (by simp; omega) _).alloc (by simp; omega) _)
  have m0 := Blk.new w 97 #[.slice A l.length c]
  have n1 := Boxed.new (w.alloc (.cells #[.slice A l.length c] 97)) 22 (.slice none 0 0)
  have n2 := Boxed.new ((w.alloc (.cells #[.slice A l.length c] 97)).alloc (.cells #[.slice none 0 0] 22)) 28 (.int .i64 0)
  have n3 := Boxed.new (((w.alloc (.cells #[.slice A l.length c] 97)).alloc (.cells #[.slice none 0 0] 22)).alloc (.cells #[.int .i64 0] 28)) 22 (.slice none 0 0)
  have m0 := ((m0.alloc (.cells #[.slice none 0 0] 22)).alloc (.cells #[.int .i64 0] 28)).alloc (.cells #[.slice none 0 0] 22)
  have n1 := (n1.alloc (.cells #[.int .i64 0] 28)).alloc (.cells #[.slice none 0 0] 22)
  have n2 := n2.alloc (.cells #[.slice none 0 0] 22)
  simp only [World.size_alloc] at m0 n1 n2 n3
  rw [hw4] at m0 n1 n2 n3
  have H4 := Lib.hid (And.intro hB4 (And.intro n1 (And.intro n2 n3)))
  have HR4 := Lib.hid ((hr.below hB4).more hB4.size)
  have q0 : w4.cell? ⟨w.heap.size, 0, none⟩ = some (.slice A l.length c) := m0.cell 0
  clear cN hr hl hb0 hV hR hv hvl hn hB4 m0 n1 n2 n3
  refine (callsIn_wide (n := 8)).1 ?_
  refine callsIn_of_wp_marks Tryz.func42 rfl trivial ?_ rfl
  simp only [Tryz.ntmps42, List.size_toArray, List.length_cons, List.length_nil, Nat.reduceAdd, Nat.reduceSub, Array.replicate_succ, Array.replicate_zero, List.push_toArray, List.append_toArray, List.nil_append, List.cons_append]
  gi_wp2_with (refine ⟨trivial, ?_⟩; gi_at_call 43; refine (callsIn_wide.2 (CN.out _ HR4.out)).mono ?_; rintro e w5 ⟨A1, q1, rfl, _, hr5, g5⟩)
  obtain ⟨hB4, n1, n2, n3⟩ := H4.out
  have h45 : w.heap.size + 4 ≤ w5.heap.size := by have := g5.size; omega
  have hB5 : Below w.heap.size w w5 := hB4.trans (g5.mono hB4.size)
  have k1 : Boxed w5 (w.heap.size + 1) 22 (.slice none 0 0) := (g5.block _ n1.lt).trans n1
  have k2 : Boxed w5 (w.heap.size + 2) 28 (.int .i64 0) := (g5.block _ n2.lt).trans n2
  have k3 : Boxed w5 (w.heap.size + 3) 22 (.slice none 0 0) := (g5.block _ n3.lt).trans n3
  -- the values lie apart from the box of what is collected
  have hcell : ∀ k (hk : k < V.length), ∃ b o, A1 = some ⟨b, o, none⟩ ∧ ∀ W, w5.grownBy W (some (w.heap.size + 3)) → W.cell? ⟨b, o + k, none⟩ = some (.string (bs V[k])) := by
    intro k hk
    obtain ⟨b, o, e, hb, h0⟩ := hr5.text k hk
    have hne : b ≠ w.heap.size + 3 := by
      intro eb
      rw [eb] at h0
      have : w5.cell? ⟨w.heap.size + 3, o + k, none⟩ = (#[Value.slice none 0 0] : Array Value)[o + k]? := cell_of_row w5 _ _ _ _ (0, 0) k3
      rw [this] at h0
      cases hz : o + k with
      | zero => rw [hz] at h0; simp at h0
      | succ m => rw [hz] at h0; simp at h0
    refine ⟨b, o, e, fun W hg => ?_⟩
    have hbk := hg.block b hb (fun e => hne (by injection e))
    exact (World.cell?_of_block hbk).trans h0
  have HC := Lib.hid (And.intro hcell (And.intro h45 (And.intro hB5 (And.intro k1 k2))))
  have hI0 : Hid (((piecesL (V.take 0)).any badL = false) ∧ (∃ v, Boxed w5 (w.heap.size + 3) 22 v ∧ w5.ownsRow w5.heap.size 3 1 v ((piecesL (V.take 0)).filterMap pickL).length (ints ((piecesL (V.take 0)).filterMap pickL))) ∧ KD [] w5 ∧ ([] : List Nat).Nodup ∧ (∀ D ∈ ([] : List Nat), w.heap.size ≤ D) ∧ w5.grownBy w5 (some (w.heap.size + 3))) :=
    ⟨rfl, ⟨_, k3, World.ownsRow_nil _ _ _ _⟩, (fun D hD => by simp at hD), List.nodup_nil, (fun D hD => by simp at hD), only_of_below (Below.refl _ _) _⟩
  clear hcell h45 hB5 k1 k2 k3 n1 n2 n3 hB4 hr5 g5 H4 CN HR4 hs4 q0
  refine wpIn_loop (fun a' W' => ∃ (i : Nat) (Ds : List Nat) (u6 u15 u16 u17 u18 u19 u33 : Value), a' = ({ tmps := #[.agg #[.slice A l.length c], .pointer (some ⟨w.heap.size, 0, none⟩), .pointer (some ⟨w.heap.size + 1, 0, none⟩), .pointer (some ⟨w.heap.size + 1 + 1, 0, none⟩), .pointer (some ⟨w.heap.size + 1 + 1 + 1, 0, none⟩), undef, u6, undef, undef, undef, .pointer (some ⟨w.heap.size, 0, none⟩), .agg #[.slice A l.length c], .slice A1 V.length q1, .int .i64 V.length, .int .i64 i, u15, u16, u17, u18, u19, undef, undef, undef, undef, undef, undef, undef, undef, undef, undef, undef, undef, undef, u33, undef], defers := Ds.map markD } : Act) ∧ i ≤ V.length ∧ Hid (((piecesL (V.take i)).any badL = false) ∧ (∃ v, Boxed W' (w.heap.size + 3) 22 v ∧ W'.ownsRow w5.heap.size 3 1 v ((piecesL (V.take i)).filterMap pickL).length (ints ((piecesL (V.take i)).filterMap pickL))) ∧ KD Ds W' ∧ Ds.Nodup ∧ (∀ D ∈ Ds, w.heap.size ≤ D) ∧ w5.grownBy W' (some (w.heap.size + 3)))) (fun a' _ => V.length - (intOf (a'.tmps.getD 14 undef)).toNat) ?start ?round
  case start => exact ⟨0, [], undef, undef, undef, undef, undef, undef, undef, rfl, Nat.zero_le _, hI0⟩
  case round =>
    rintro a' W0 ⟨i, Ds, u6, u15, u16, u17, u18, u19, u33, rfl, hi, HI⟩
    clear hI0
    by_cases hlt : i < V.length
    · obtain ⟨b, o, rfl, hcl⟩ := HC.out.1 i hlt
      have c0 := hcl W0 HI.out.2.2.2.2.2
      obtain ⟨v, hv⟩ : ∃ v, V[i] = v := ⟨_, rfl⟩
      have hvs := HV.out.1 V[i] (List.getElem_mem hlt)
      have hvm : v ∈ V := by rw [← hv]; exact List.getElem_mem hlt
      have hpt := pieces_take V i hlt
      rw [hv] at c0 hvs hpt
      obtain ⟨s, hs⟩ : ∃ s, bs v = s := ⟨_, rfl⟩
      have hsl : s.data.toList = v := by rw [← hs]; rfl
      have hss : s.size ≤ 600 := by rw [← size_l, hsl]; exact hvs
      rw [hs] at c0
      rw [← hsl] at hpt hvm
      have HP := Lib.hid (And.intro hpt hvm)
      have i0 : (0 : Int) ≤ (i : Int) := by omega
      have i1 : (i : Int) < (V.length : Int) := by omega
      clear hcl hpt hvm hvs hsl hs hv
      gi_wp2_with (refine ⟨trivial, ?_⟩; gi_at_call 66; refine (callsIn_wide.2 (CS.out s _)).mono ?_; rintro e w6 ⟨rfl, rfl⟩)
      obtain ⟨_, h45, hB5, k1, k2⟩ := HC.out
      obtain ⟨hg0, ⟨v0, b0, o0⟩, hK0, hnd, hDw, hgr⟩ := HI.out
      have h05 : w5.heap.size ≤ W0.heap.size := hgr.size
      obtain ⟨P, hP⟩ : ∃ P, piecesL (V.take i) = P := ⟨_, rfl⟩
      have hPl := HV.out.2.2 i
      rw [hP] at hg0 o0 HP hPl
      obtain ⟨w6, hw6⟩ : ∃ w6, ((W0.alloc (.cells #[.string s] 9)).alloc (.cells #[.string ⟨#[44]⟩] 9)).alloc (.cells #[.int .i64 0] 3) = w6 := ⟨_, rfl⟩
      have hs6 : w6.heap.size = W0.heap.size + 3 := by rw [← hw6]; simp
      have hb6 : Below W0.heap.size W0 w6 := by rw [← hw6]; exact (((Below.refl _ _).alloc (Nat.le_refl _) _).alloc (by simp) _).alloc (by simp; omega) _
      have hG : splitG W0.heap.size s 44 w6 := by
        have m0 := Boxed.new W0 9 (.string s)
        have m1 := Boxed.new (W0.alloc (.cells #[.string s] 9)) 9 (.string ⟨#[44]⟩)
        have m2 := Boxed.new ((W0.alloc (.cells #[.string s] 9)).alloc (.cells #[.string ⟨#[44]⟩] 9)) 3 (.int .i64 0)
        simp only [World.size_alloc] at m0 m1 m2
        rw [← hw6]
        exact ⟨(m0.alloc _).alloc _, m1.alloc _, m2⟩
      have hgr6 : w5.grownBy w6 (some (w.heap.size + 3)) := grown_then hgr (only_of_below hb6 none) (fun r e => by cases e)
      have neO : ∀ {k : Nat}, k ≠ w.heap.size + 3 → some k ≠ some (w.heap.size + 3) := fun hk e => hk (by injection e)
      have hI6 : FI w w5 W0.heap.size Ds P [] w6 := by
        refine ⟨⟨by rw [show rawB [] = [] from rfl, List.append_nil]; exact hg0, k1.kept hgr6 (neO (by omega)), k2.kept hgr6 (neO (by omega)), by omega⟩, ⟨v0, (hb6.block _ b0.lt).trans b0, by rw [show rawB [] = [] from rfl, List.append_nil]; exact own_keep o0 hb6, fun g eg => .inl (o0.lt _ eg).2⟩, ⟨hB5.grown hgr6 hB5.size (fun k e => by injection e; omega), KD_below hK0 hb6⟩, hgr6⟩
      have hDlt : ∀ D ∈ Ds, D < w6.heap.size := fun D hD => by have := KD_lt hK0 D hD; omega
      have H6 := Lib.hid (And.intro hnd (And.intro hDw (And.intro hDlt hB5)))
      rw [hw6]
      clear hw6 hb6 hgr hK0 o0 b0 hg0 hgr6 hP HI c0 k1 k2 hnd hDw
      refine wpIn_rangeFunc_st (F := Fence.wide) (n := 8) rfl (by omega) (gf := 124) (lb := #[.pointer (some ⟨W0.heap.size + 1, 0, none⟩), .pointer (some ⟨W0.heap.size, 0, none⟩), .pointer (some ⟨W0.heap.size + 2, 0, none⟩)]) rfl trivial (enters_of Tryz.func124 (by kernel_rfl) rfl)
        (split_st 7 (by omega) W0.heap.size s 44 (by omega)) hG (fun W o h => splitG_alloc W o h) (fun A B h => h.2) (fun h k => splitKp_trans h k) (fun W l o hl => splitKp_put W l o (by omega)) (fun _ => rfl)
        (FI w w5 W0.heap.size Ds P) (FX w Ds) (FI_own w w5 _ Ds P _ (by omega) (by omega) hDlt) (fun c => FX_own w Ds c _ (by omega) hDlt) (FI_st w w5 _ Ds P h45 h05) hI6
        (fun x => { tmps := #[.agg #[.slice A l.length c], .pointer (some ⟨w.heap.size, 0, none⟩), .pointer (some ⟨w.heap.size + 1, 0, none⟩), .pointer (some ⟨w.heap.size + 1 + 1, 0, none⟩), .pointer (some ⟨w.heap.size + 1 + 1 + 1, 0, none⟩), undef, .string s, .string x, undef, undef, .pointer (some ⟨w.heap.size, 0, none⟩), .agg #[.slice A l.length c], .slice (some ⟨b, o, none⟩) V.length q1, .int .i64 V.length, .int .i64 i, .bool true, .pointer (some ⟨b, o + i, none⟩), .string s, .string s, .func (.func 124) #[] #[.pointer (some ⟨W0.heap.size + 1, 0, none⟩), .pointer (some ⟨W0.heap.size, 0, none⟩), .pointer (some ⟨W0.heap.size + 2, 0, none⟩)], .string x, undef, undef, undef, undef, undef, undef, undef, undef, undef, undef, undef, undef, u33, undef], defers := [] }) ?assign ?body ?done ?stop
      case assign =>
        intro l x W K hK
        gi_wp2
        exact hK
      case body =>
        rintro ll pre x W hI hpre
        have hxs : x.size ≤ 600 ∧ pre.length ≤ 601 := by
          obtain ⟨h1, h2⟩ := splitC_len 44 s.data.toList
          rw [size_l] at h1 h2
          refine ⟨?_, ?_⟩
          · obtain ⟨y, hy, rfl⟩ := List.mem_map.1 (hpre.subset (List.mem_append.2 (.inr (List.mem_singleton.2 rfl))))
            have := h2 y hy
            rw [bs_size]; omega
          · have := hpre.length_le
            simp at this
            omega
        obtain ⟨hx1, hx2⟩ := hxs
        have htl := tr_size x
        have CT := Lib.hid (fun w => TTrim_any x w (by omega))
        have cL := fun w => pLength (tr x) w (by omega)
        obtain ⟨e1, e2⟩ := pick_num x.data.toList
        rw [tr_list, e1, e2] at cL
        obtain ⟨N, hN⟩ : ∃ N, (pickL x.data.toList).getD 0 = N := ⟨_, rfl⟩
        rw [hN] at cL
        have HIx := Lib.hid hI
        clear hI
        cases hbad : badL x.data.toList with
        | false =>
          rw [hbad] at cL
          have CL := Lib.hid cL
          have fin : ∀ W2, Below W.heap.size W W2 → ∃ v g cap m w7, W2.cell? ⟨w.heap.size + 1 + 1 + 1, 0, none⟩ = some v ∧ (Builtin.append_ #[22, 22] 22 #[v, .slice (some ⟨W2.heap.size, 0, none⟩) 1 1]).run Tryz.prog (W2.alloc (.cells #[.int .i64 N] 3)) = .ok (.slice (some ⟨g, 0, none⟩) m cap) w7 ∧
              w7.cell? ⟨w.heap.size + 1 + 1 + 1, 0, none⟩ = some v ∧ w7.frozen? ⟨w.heap.size + 1 + 1 + 1, 0, none⟩ = false ∧ Hid (KeepsFrom w6.heap.size W (w7.setCell ⟨w.heap.size + 3, 0, none⟩ (.slice (some ⟨g, 0, none⟩) m cap)) ∧ splitKp W0.heap.size W (w7.setCell ⟨w.heap.size + 3, 0, none⟩ (.slice (some ⟨g, 0, none⟩) m cap)) ∧ FI w w5 W0.heap.size Ds P (pre ++ [x]) (w7.setCell ⟨w.heap.size + 3, 0, none⟩ (.slice (some ⟨g, 0, none⟩) m cap))) := by
            intro W2 hb2
            have hI2 := FI_below HIx.out hb2
            obtain ⟨_, ⟨v, p4, p5, p6⟩, _⟩ := id hI2
            obtain ⟨i0, hi, hz0, hz1, hz2⟩ := info_parts infoInt
            have hlen : ((P ++ rawB pre).filterMap pickL).length ≤ 700000 := by
              have := List.length_filterMap_le pickL (P ++ rawB pre)
              have : (rawB pre).length = pre.length := by unfold rawB; rw [List.length_map]
              rw [List.length_append] at *
              omega
            have hz : w5.heap.size ≤ W2.heap.size := hI2.2.2.2.size
            obtain ⟨v', w7, hrun, hown, hg, hlt, hor⟩ := app_one (P := Tryz.prog) 22 22 3 i0 (.int .i64 0) 1 8 Tryz.underlying22 hi hz0 hz1 hz2 rfl (by decide) w5.heap.size W2 v _ _ p5 #[.int .i64 N] rfl (by intro u hu; simp at hu; subst hu; rfl) 3 (by unfold maxLen; omega) (by omega) hz
            obtain ⟨g, cap, rfl⟩ := ownsRow_succ hown
            obtain ⟨r1, r2, r3, r4⟩ := FI_add h45 h05 hI2 p4 p5 p6 hbad hN hown hg hor w6.heap.size
            exact ⟨v, g, cap, _, w7, p4.cell, hrun, r1.cell, r1.frozen, hide ⟨(keepsFrom_below hb2).trans r2, splitKp_trans (splitKp_below hb2) r3, r4⟩⟩
          have FIN := Lib.hid fin
          clear fin cL hbad hN e1 e2
          gi_wp2_with (first
            | (refine ⟨trivial, ?_⟩; gi_at_call 68; refine (CallsIn.inRound ll (callsIn_wide.2 (CT.out _))).mono ?_; rintro e W1 ⟨rfl, hb1⟩)
            | (refine ⟨trivial, ?_⟩; gi_at_call 67; refine (CallsIn.inRound ll (callsIn_wide.2 (CL.out _))).mono ?_; rintro e W2 ⟨rfl, hb2⟩; obtain ⟨vv, g, cap, m, w7, c4, hrun, d4, f4, HQ⟩ := FIN.out W2 (hb1.trans (hb2.mono hb1.size)))
            | (gi_at_builtin; refine wpListIn_append_run hrun (by rfl) _ _ (by rfl) (by rfl) (by rfl) (by rfl) ?_))
          exact HQ.out
        | true =>
          rw [hbad] at cL
          have CL := Lib.hid cL
          have HBD := Lib.hid hbad
          clear cL hbad hN e1 e2
          gi_wp2_with (first
            | (refine ⟨trivial, ?_⟩; gi_at_call 68; refine (CallsIn.inRound ll (callsIn_wide.2 (CT.out _))).mono ?_; rintro e W1 ⟨rfl, hb1⟩)
            | (refine ⟨trivial, ?_⟩; gi_at_call 67; refine (CallsIn.inRound ll (callsIn_wide.2 (CL.out _))).mono ?_; rintro e W2 ⟨rfl, hb2⟩
               obtain ⟨⟨hok, p1, p2, _⟩, _, ⟨hB, hK⟩, _⟩ := FI_below HIx.out (hb1.trans (hb2.mono hb1.size))
               have c0 : W2.cell? ⟨w.heap.size + 1, 0, none⟩ = some (.slice none 0 0) := p1.cell
               have f0 : W2.frozen? ⟨w.heap.size + 1, 0, none⟩ = false := p1.frozen
               have c1 : W2.cell? ⟨w.heap.size + 1 + 1, 0, none⟩ = some (.int .i64 0) := p2.cell
               have f1 : W2.frozen? ⟨w.heap.size + 1 + 1, 0, none⟩ = false := p2.frozen))
          refine ⟨(((keepsFrom_below hb1).trans (keepsFrom_below hb2)).trans (keepsFrom_set _ _ _ _)).trans (keepsFrom_set _ _ _ _), ⟨rfl, ?_, (p1.set _).kept (grownBy_setCell' _ _ _) (by simp), (p2.kept (grownBy_setCell' _ _ _) (by simp)).set _⟩, ?_, ?_⟩
          · rw [rawB_snoc, List.any_append]; simp [HBD.out]
          · exact (hB.setCell (by simp only; omega) _).setCell (by simp only; omega) _
          · exact KD_others (KD_others hK (KeepsOthers.setCell _ _ _)) (KeepsOthers.setCell _ _ _)
      case done =>
        rintro D xs W hD rfl ⟨⟨hok, p1, p2, pz⟩, ⟨v, p4, p5, _⟩, ⟨hB, hK⟩, hgr⟩ hKD
        have hraw : rawB ((splitC 44 s.data.toList).map bs) = splitC 44 s.data.toList := by
          unfold rawB
          rw [List.map_map, show ((fun x : ByteArray => x.data.toList) ∘ bs) = id from rfl, List.map_id]
        rw [hraw, ← HP.out.1] at hok p5
        obtain ⟨hnd, hDw, hDlt, hB5⟩ := H6.out
        have hN : Hid (((piecesL (V.take (i + 1))).any badL = false) ∧ (∃ v, Boxed W (w.heap.size + 3) 22 v ∧ W.ownsRow w5.heap.size 3 1 v ((piecesL (V.take (i + 1))).filterMap pickL).length (ints ((piecesL (V.take (i + 1))).filterMap pickL))) ∧ KD (D :: Ds) W ∧ (D :: Ds).Nodup ∧ (∀ D' ∈ D :: Ds, w.heap.size ≤ D') ∧ w5.grownBy W (some (w.heap.size + 3))) := by
          refine ⟨hok, ⟨v, p4, p5⟩, ?_, ?_, ?_, hgr⟩
          · intro D' hD'
            rcases List.mem_cons.1 hD' with rfl | h
            · exact hKD
            · exact hK D' h
          · rw [List.nodup_cons]
            exact ⟨fun h => by have := hDlt D h; omega, hnd⟩
          · intro D' hD'
            rcases List.mem_cons.1 hD' with rfl | h
            · have := hB5.size; omega
            · exact hDw D' h
        clear p1 p2 p4 p5 hok hB hK hgr hKD hraw hnd hDw hDlt
        gi_wp2
        exact ⟨⟨i + 1, D :: Ds, _, _, _, _, _, _, _, rfl, by omega, hN⟩, by simp [intOf]; omega⟩
      case stop =>
        rintro D cc pre W hD hpre ⟨⟨rfl, hbad, p1, p2⟩, hB, hK⟩ hKD
        obtain ⟨hnd, hDw, hDlt, hB5⟩ := H6.out
        have hres : R = ([], 3) := by
          rw [← HV.out.2.1]
          obtain ⟨y, hy, hyb⟩ := List.any_eq_true.1 hbad
          unfold rawB at hy
          obtain ⟨z, hz, rfl⟩ := List.mem_map.1 hy
          obtain ⟨z', hz', rfl⟩ := List.mem_map.1 (hpre.subset hz)
          exact lens_bad (pieces_mem_of HP.out.2 hz') hyb
        subst hres
        gi_wp2
        refine leavesM_all w.heap.size (fun W => (Boxed W (w.heap.size + 1) 22 (.slice none 0 0) ∧ Boxed W (w.heap.size + 2) 28 (.int .i64 3)) ∧ Below w.heap.size w W)
          (OwnFrom.and (Own.from (fun s X Y row h hg hr => ⟨boxed_own' (β := Unit) _ _ (fun _ => .slice none 0 0) () X Y row h.1 hg hr, boxed_own' (β := Unit) _ _ (fun _ => .int .i64 3) () X Y row h.2 hg hr⟩) _) (ownFrom_below (Nat.le_refl _) (Nat.le_refl _)))
          (D :: Ds) W ⟨⟨p1, p2⟩, hB⟩ ?_ ?_ ?_ ?_
        · intro D' hD'
          rcases List.mem_cons.1 hD' with rfl | h
          · have := hB5.size; omega
          · exact hDw D' h
        · intro D' hD'
          rcases List.mem_cons.1 hD' with rfl | h
          · exact hKD
          · exact hK D' h
        · rw [List.nodup_cons]
          exact ⟨fun h => by have := hDlt D h; omega, hnd⟩
        · rintro W' ⟨⟨r1, r2⟩, hBW⟩
          have q1 : W'.cell? ⟨w.heap.size + 1, 0, none⟩ = some (.slice none 0 0) := r1.cell
          have q2 : W'.cell? ⟨w.heap.size + 1 + 1, 0, none⟩ = some (.int .i64 3) := r2.cell
          refine ⟨.tuple #[.slice none 0 0, .int .i64 3], by simp [results, Tryz.f42, go_sem, q1, q2], ?_⟩
          exact ⟨none, 0, rfl, Nat.le_refl _, Reads.none_, hBW⟩
    · obtain rfl : i = V.length := by omega
      have hd2 : decide ((V.length : Int) < (V.length : Int)) = false := by simp
      obtain ⟨_, h45, hB5, k1, k2⟩ := HC.out
      obtain ⟨hg0, ⟨v0, b0, o0⟩, hK0, hnd, hDw, hgr⟩ := HI.out
      have neO : ∀ {k : Nat}, k ≠ w.heap.size + 3 → some k ≠ some (w.heap.size + 3) := fun hk e => hk (by injection e)
      have j1 := k1.kept hgr (neO (by omega))
      have j2 := k2.kept hgr (neO (by omega))
      rw [List.take_length] at hg0 o0
      have hres : R = ((piecesL V).filterMap pickL, 0) := by rw [← HV.out.2.1]; exact lens_good hg0
      subst hres
      obtain ⟨A', cap, rfl⟩ := own_slice o0
      have c4 : W0.cell? ⟨w.heap.size + 1 + 1 + 1, 0, none⟩ = some _ := b0.cell
      have c0 : W0.cell? ⟨w.heap.size + 1, 0, none⟩ = some (.slice none 0 0) := j1.cell
      have f0 : W0.frozen? ⟨w.heap.size + 1, 0, none⟩ = false := j1.frozen
      have c1 : W0.cell? ⟨w.heap.size + 1 + 1, 0, none⟩ = some (.int .i64 0) := j2.cell
      have f1 : W0.frozen? ⟨w.heap.size + 1 + 1, 0, none⟩ = false := j2.frozen
      gi_wp2
      obtain ⟨VV, hVV⟩ : ∃ VV, Value.slice A' ((piecesL V).filterMap pickL).length cap = VV := ⟨_, rfl⟩
      rw [hVV] at b0 o0 ⊢
      have z1 := j1.not_row (show (22 : TypeId) ≠ 3 by decide) o0
      have z2 := j2.not_row (show (28 : TypeId) ≠ 3 by decide) o0
      have hBW : Below w.heap.size w W0 := hB5.grown hgr hB5.size (fun k e => by injection e; omega)
      refine leavesM_all w.heap.size (fun W => (∃ v', Boxed W (w.heap.size + 1) 22 v' ∧ W.ownsRow w5.heap.size 3 1 v' ((piecesL V).filterMap pickL).length (ints ((piecesL V).filterMap pickL)) ∧ v' = VV) ∧ (Boxed W (w.heap.size + 2) 28 (.int .i64 0) ∧ Below w.heap.size w W))
        (OwnFrom.and (Own.from (holdsRow_own (β := Unit) w5.heap.size (w.heap.size + 1) 22 3 1 (fun _ => ((piecesL V).filterMap pickL).length) (fun _ => ints ((piecesL V).filterMap pickL)) (fun _ v' => v' = VV)) _) (OwnFrom.and (Own.from (boxed_own' (β := Unit) _ _ (fun _ => .int .i64 0)) _) (ownFrom_below (Nat.le_refl _) (Nat.le_refl _))))
        Ds _ ?_ hDw ?_ hnd ?_
      · refine ⟨⟨VV, (j1.set VV).kept (grownBy_setCell' _ _ _) (by simp), (o0.kept (grownBy_setCell' W0 _ VV) (.inr z1.symm)).kept (grownBy_setCell' _ _ _) (.inr z2.symm), rfl⟩, (j2.kept (grownBy_setCell' W0 _ VV) (by simp)).set _, (hBW.setCell (by simp only; omega) _).setCell (by simp only; omega) _⟩
      · exact KD_others (KD_others hK0 (KeepsOthers.setCell _ _ _)) (KeepsOthers.setCell _ _ _)
      · rintro W' ⟨⟨v', r1, r3, rfl⟩, r2, hBX⟩
        have q1 : W'.cell? ⟨w.heap.size + 1, 0, none⟩ = some v' := r1.cell
        have q2 : W'.cell? ⟨w.heap.size + 1 + 1, 0, none⟩ = some (.int .i64 0) := r2.cell
        refine ⟨.tuple #[v', .int .i64 0], by simp [results, Tryz.f42, go_sem, q1, q2], ?_⟩
        subst hVV
        exact ⟨A', cap, rfl, own_capA r3, Reads.of_own r3, hBX⟩
end

section
open Go.RowKit

/-- what Of hands back -/
def OfPost (t : Nat × Nat × Nat) (w : World) (e : Ending) (w' : World) : Prop :=
  e = .returned (.tuple #[.agg #[.int .i64 t.1, .int .i64 t.2.1], .int .i64 t.2.2]) ∧ Below w.heap.size w w'
theorem ofP_400 {L : List Nat} {e : Nat} {c : Bool} {f : Nat} (h : e ≠ 0 ∨ f ≠ 0 ∨ (c = true ∧ L ≠ [])) : ofP L e c f = (0, 0, 400) := if_pos h
theorem ofP_good (L : List Nat) (c : Bool) (h : ¬ (c = true ∧ L ≠ [])) : ofP L 0 c 0 = if L.any (fun n => n != L.headD 0) then (0, 0, 400) else if c then (3, 0, 0) else if L = [] then (1, 0, 0) else if 2048 < L.headD 0 then (0, 0, 413) else (2, L.headD 0, 0) := by
  unfold ofP
  rw [if_neg (by simp at h ⊢; exact h)]

set_option maxRecDepth 100000 in
set_option maxHeartbeats 8000000 in
theorem rOf (A : Option Addr) (n c : Nat) (l : List Fld) (w : World) (hr : Reads w w.heap.size 2 A n (fldsC l)) (hn : n ≤ 1000) (hl : fldsS l) :
    Calls Tryz.prog 32 #[.slice A n c] w (OfPost (ofT l) w) := by
  have hb0 : Below w.heap.size w (w.alloc (.cells #[.int .i64 0, .int .i64 0] 63)) := (Below.refl _ _).alloc (Nat.le_refl _) _
  have m0 := Blk.new w 63 #[.int .i64 0, .int .i64 0]
  have cL := fun w hr => rLengths A n c l w hr hn hl
  have cC := fun w hr => rChunked A n c l w hr (by omega) (fldsS_ok hl)
  unfold LensPost at cL
  have HR := Lib.hid hr
  have hlen := hr.flen
  have hLb : (lensT (valuesL clN l)).1.length ≤ 1000000 ∧ ∀ x ∈ (lensT (valuesL clN l)).1, x < 1000000000 := by
    obtain ⟨h1, h2⟩ := lensP_len (piecesL (valuesL clN l))
    refine ⟨?_, h2⟩
    have h3 := pieces_take_len (valuesL clN l) (by have := valuesL_len clN l; omega) (fldsS_values hl clN) (valuesL clN l).length
    rw [List.take_length] at h3
    have : (lensT (valuesL clN l)).1.length ≤ (piecesL (valuesL clN l)).length := h1
    omega
  unfold ofT
  obtain ⟨⟨L, E⟩, hLE⟩ : ∃ z, lensT (valuesL clN l) = z := ⟨_, rfl⟩
  obtain ⟨⟨C, F⟩, hCF⟩ : ∃ z, chunkT (valuesL teN l) = z := ⟨_, rfl⟩
  rw [hLE] at cL hLb ⊢
  rw [hCF] at cC ⊢
  simp only at cL cC hLb ⊢
  obtain ⟨R, hR⟩ : ∃ R, ofP L E C F = R := ⟨_, rfl⟩
  rw [hR]
  unfold OfPost
  have CL := Lib.hid cL
  have CC := Lib.hid cC
  have H0 := Lib.hid (And.intro hb0 m0)
  have HL := Lib.hid hLb
  clear cL cC hr hl hn hb0 m0 hLE hCF hLb hlen
  have tail : ∀ (a b : Int) (k : Nat × Nat × Nat) (W : World) (st : Int), Hid (Blk W w.heap.size 63 #[.int .i64 0, .int .i64 0] ∧ Below w.heap.size w W) → a = k.1 → b = k.2.1 → st = k.2.2 → True := fun _ _ _ _ _ _ _ _ _ => trivial
  clear tail
  go_enter Tryz.func32, Tryz.ntmps32
  go_wp2_with fail
  (with_reducible refine (CL.out _ ((HR.out.below H0.out.1).more H0.out.1.size)).mono ?_); rintro e w1 ⟨A1, q1, rfl, _, hr1, g1⟩
  have h1 := H0.out.1.trans (g1.mono H0.out.1.size)
  have k1 := H0.out.2.below g1 H0.out.2.lt
  have HR1 := Lib.hid (And.intro ((HR.out.below h1).more h1.size) (And.intro hr1 (And.intro h1 k1)))
  clear g1 h1 k1 hr1 H0 HR CL
  go_wp2_with fail
  (with_reducible refine (CC.out _ HR1.out.1).mono ?_); rintro e w2 ⟨rfl, g2⟩
  have h2 := HR1.out.2.2.1.trans (g2.mono HR1.out.2.2.1.size)
  have k2 := HR1.out.2.2.2.below g2 HR1.out.2.2.2.lt
  have r2 := (HR1.out.2.1.below g2).more g2.size
  have H2 := Lib.hid (And.intro h2 (And.intro k2 r2))
  have f0 : w2.frozen? ⟨w.heap.size, 0, none⟩ = false := k2.frozen 0
  have f1 : w2.frozen? ⟨w.heap.size, 1, none⟩ = false := k2.frozen 1
  have z0 : w2.cell? ⟨w.heap.size, 0, none⟩ = some (.int .i64 0) := k2.cell 0
  have z1 : w2.cell? ⟨w.heap.size, 1, none⟩ = some (.int .i64 0) := k2.cell 1
  clear g2 h2 k2 r2 HR1 CC
  by_cases hE : E = 0
  · subst hE
    have e1 : (((0 : Nat) : Int) != 0) = false := rfl
    by_cases hF : F = 0
    · subst hF
      by_cases hCL : C = true ∧ L ≠ []
      · rw [ofP_400 (.inr (.inr hCL))] at hR
        subst hR
        obtain ⟨rfl, hL⟩ := hCL
        have d1 : decide ((0 : Int) < (L.length : Int)) = true := by
          have := List.length_pos_iff.2 hL
          simp; omega
        have d2 : decide (0 < L.length) = true := by simp at d1 ⊢; omega
        have d3 : 0 < L.length := by simpa using d2
        clear hL
        go_wp2_with fail
        refine bodyPost_ret (results_cell_row_tmp (p := 2) (u := 3) (ty := 63) (by kernel_rfl) _ _ w.heap.size 63 #[.int .i64 0, .int .i64 0] (0, 0) _ rfl ((H2.out.2.1.set_ 0 _).set_ 1 _) Tryz.underlying63 rfl (by kernel_rfl)) rfl ?_
        exact ⟨rfl, (H2.out.1.setCell (by simp) _).setCell (by simp) _⟩
      · rw [ofP_good L C hCL] at hR
        have hdc : C = false ∨ L = [] := by
          cases C
          · exact .inl rfl
          · exact .inr (Classical.byContradiction fun h => hCL ⟨rfl, h⟩)
        have dC : (C && decide ((0 : Int) < (L.length : Int))) = false := by
          rcases hdc with rfl | rfl
          · rfl
          · simp
        have fin : ∀ (W : World) (j : Nat), Hid (W = w2.drewN j) → Hid (Below w.heap.size w W ∧ Blk W w.heap.size 63 #[.int .i64 0, .int .i64 0] ∧ Reads W W.heap.size 1 A1 L.length (ints L)) := by
          intro W j h
          rw [h.out]
          exact hide ⟨below_drewN H2.out.1 j, H2.out.2.1.drewN j, H2.out.2.2.drewN j⟩
        have HFI := Lib.hid fin
        have HDC := Lib.hid hdc
        have d4 : C = true → L.length = 0 := by
          intro h
          rcases hdc with rfl | rfl
          · cases h
          · rfl
        clear fin hdc hCL
        have HRs := Lib.hid hR
        clear hR
        rcases Bool.eq_false_or_eq_true C with hC | hC
        · subst hC
          have hL0 : L = [] := List.eq_nil_of_length_eq_zero (d4 rfl)
          subst hL0
          have hres : R = (3, 0, 0) := by rw [← HRs.out]; rfl
          subst hres
          clear dC d4
          go_wp2_with fail
          go_loopw [8] (fun i wr => i = .int .i64 1 ∧ wr = w2) (fun _ _ => 0)
          case atStart => exact ⟨rfl, rfl⟩
          case round =>
            obtain ⟨rfl, rfl⟩ := hrel
            go_wp2_with fail
            refine bodyPost_ret (results_cell_row_tmp (p := 2) (u := 3) (ty := 63) (by kernel_rfl) _ _ w.heap.size 63 #[.int .i64 3, .int .i64 0] (0, 0) _ rfl ((H2.out.2.1.set_ 0 _).set_ 1 _) Tryz.underlying63 rfl (by kernel_rfl)) rfl ?_
            exact ⟨rfl, (H2.out.1.setCell (by simp) _).setCell (by simp) _⟩
        · subst hC
          clear dC d4
          go_wp2_with fail
          go_loopw [8] (fun i wr => ∃ k j : Nat, i = .int .i64 k ∧ 1 ≤ k ∧ (k ≤ L.length ∨ k = 1) ∧ Hid (∀ x ∈ L.take k, x = L.headD 0) ∧ wr = w2.drewN j) (fun i _ => L.length - (intOf i).toNat)
          case atStart =>
            refine ⟨1, 0, rfl, Nat.le_refl _, .inr rfl, hide ?_, rfl⟩
            intro x hx
            cases L with
            | nil => simp at hx
            | cons y r => simpa using hx
          case round =>
            obtain ⟨k, j, rfl, hk1, hk, HT, rfl⟩ := hrel
            obtain ⟨hbF, hZ, hrF⟩ := HFI.out (w2.drewN j) j rfl
            have hLL := HL.out.1
            have f0 : (w2.drewN j).frozen? ⟨w.heap.size, 0, none⟩ = false := hZ.frozen 0
            have f1 : (w2.drewN j).frozen? ⟨w.heap.size, 1, none⟩ = false := hZ.frozen 1
            have z0 : (w2.drewN j).cell? ⟨w.heap.size, 0, none⟩ = some (.int .i64 0) := hZ.cell 0
            have z1 : (w2.drewN j).cell? ⟨w.heap.size, 1, none⟩ = some (.int .i64 0) := hZ.cell 1
            by_cases hlt : k < L.length
            · obtain ⟨b, o, rfl, _, c1⟩ := H2.out.2.2.num k hlt
              obtain ⟨b', o', e', _, c2⟩ := H2.out.2.2.num 0 (by omega)
              cases e'
              have hhd : L[0]'(by omega) = L.headD 0 := by cases L with
                | nil => simp at hlt
                | cons y r => rfl
              obtain ⟨x, hx⟩ : ∃ x, L[k] = x := ⟨_, rfl⟩
              obtain ⟨y, hy⟩ : ∃ y, L.headD 0 = y := ⟨_, rfl⟩
              rw [hx] at c1
              rw [hhd, hy] at c2
              have c3 : w2.cell? ⟨b, o, none⟩ = some (.int .i64 (y : Int)) := c2
              have i0 : (0 : Int) ≤ (k : Int) := by omega
              have i1 : (k : Int) < (L.length : Int) := by omega
              have i2 : (0 : Int) < (L.length : Int) := by omega
              have HF2 := Lib.hid (fun m => HFI.out (w2.drewN m) m rfl)
              by_cases he : x = y
              · have hq : ((x : Int) != (y : Int)) = false := by rw [he]; simp
                have HN : Hid (∀ z ∈ L.take (k + 1), z = L.headD 0) := by
                  intro z hz
                  rw [List.take_succ_eq_append_getElem hlt] at hz
                  rcases List.mem_append.1 hz with hz | hz
                  · exact HT.out z hz
                  · simp at hz; rw [hz, hx, hy, he]
                clear he hx hy hhd hbF hZ hrF
                go_wp2_with fail
                go_quiet (fail)
                go_wp2_with fail
                exact ⟨⟨k + 1, _, by go_num, by omega, .inl (by omega), HN, rfl⟩, by simp [intOf]; omega⟩
              · have hq : ((x : Int) != (y : Int)) = true := by rw [bne_iff_ne]; omega
                have hres : R = (0, 0, 400) := by
                  rw [← HRs.out, if_pos]
                  exact List.any_eq_true.2 ⟨x, by rw [← hx]; exact List.getElem_mem hlt, by rw [hy]; simpa using he⟩
                subst hres
                clear he hx hy hhd hbF hZ hrF f0 f1 z0 z1
                go_wp2_with fail
                go_quiet (fail)
                obtain ⟨hbG, hZG, _⟩ := HF2.out (j + nq)
                rw [World.drewN_drewN]
                generalize w2.drewN (j + nq) = W3 at hbG hZG ⊢
                have f0 : W3.frozen? ⟨w.heap.size, 0, none⟩ = false := hZG.frozen 0
                have f1 : W3.frozen? ⟨w.heap.size, 1, none⟩ = false := hZG.frozen 1
                have z0 : W3.cell? ⟨w.heap.size, 0, none⟩ = some (.int .i64 0) := hZG.cell 0
                have z1 : W3.cell? ⟨w.heap.size, 1, none⟩ = some (.int .i64 0) := hZG.cell 1
                go_wp2_with fail
                refine bodyPost_ret (results_cell_row_tmp (p := 2) (u := 3) (ty := 63) (by kernel_rfl) _ _ w.heap.size 63 #[.int .i64 0, .int .i64 0] (0, 0) _ rfl ((hZG.set_ 0 _).set_ 1 _) Tryz.underlying63 rfl (by kernel_rfl)) rfl ?_
                exact ⟨rfl, (hbG.setCell (by simp) _).setCell (by simp) _⟩
            · have hd : decide ((k : Int) < (L.length : Int)) = false := by simp; omega
              have hd' : decide (k < L.length) = false := by simp; omega
              have hany : L.any (fun n => n != L.headD 0) = false := by
                rw [List.any_eq_false]
                intro x hx
                have := HT.out
                rw [List.take_of_length_le (by omega)] at this
                simpa using this x hx
              have hRR := HRs.out
              rw [hany, if_neg (by simp), if_neg (by simp)] at hRR
              by_cases hL0 : L = []
              · subst hL0
                rw [if_pos rfl] at hRR
                subst hRR
                clear hany HT hrF
                go_wp2_with fail
                refine bodyPost_ret (results_cell_row_tmp (p := 2) (u := 3) (ty := 63) (by kernel_rfl) _ _ w.heap.size 63 #[.int .i64 1, .int .i64 0] (0, 0) _ rfl ((hZ.set_ 0 _).set_ 1 _) Tryz.underlying63 rfl (by kernel_rfl)) rfl ?_
                exact ⟨rfl, (hbF.setCell (by simp) _).setCell (by simp) _⟩
              · rw [if_neg hL0] at hRR
                have hLn : 0 < L.length := List.length_pos_iff.2 hL0
                obtain ⟨b, o, rfl, _, c2⟩ := H2.out.2.2.num 0 hLn
                have hhd : L[0] = L.headD 0 := by cases L with
                  | nil => simp at hLn
                  | cons y r => rfl
                obtain ⟨y, hy⟩ : ∃ y, L.headD 0 = y := ⟨_, rfl⟩
                rw [hhd, hy] at c2
                rw [hy] at hRR
                have c3 : (w2.drewN j).cell? ⟨b, o, none⟩ = some (.int .i64 (y : Int)) := c2
                have dz : ((L.length : Int) == 0) = false := beq_eq_false_iff_ne.2 (by omega)
                have i2 : (0 : Int) < (L.length : Int) := by omega
                by_cases hbig : 2048 < y
                · rw [if_pos hbig] at hRR
                  subst hRR
                  have db : decide ((2048 : Int) < (y : Int)) = true := by simp; omega
                  clear hany HT hrF hL0 hy hhd
                  go_wp2_with fail
                  refine bodyPost_ret (results_cell_row_tmp (p := 2) (u := 3) (ty := 63) (by kernel_rfl) _ _ w.heap.size 63 #[.int .i64 0, .int .i64 0] (0, 0) _ rfl ((hZ.set_ 0 _).set_ 1 _) Tryz.underlying63 rfl (by kernel_rfl)) rfl ?_
                  exact ⟨rfl, (hbF.setCell (by simp) _).setCell (by simp) _⟩
                · rw [if_neg hbig] at hRR
                  subst hRR
                  have db : decide ((2048 : Int) < (y : Int)) = false := by simp; omega
                  clear hany HT hrF hL0 hy hhd
                  go_wp2_with fail
                  refine bodyPost_ret (results_cell_row_tmp (p := 2) (u := 3) (ty := 63) (by kernel_rfl) _ _ w.heap.size 63 #[.int .i64 2, .int .i64 y] (0, 0) _ rfl ((hZ.set_ 0 _).set_ 1 _) Tryz.underlying63 rfl (by kernel_rfl)) rfl ?_
                  exact ⟨rfl, (hbF.setCell (by simp) _).setCell (by simp) _⟩
    · rw [ofP_400 (.inr (.inl hF))] at hR
      subst hR
      have e2 : ((F : Int) != 0) = true := by rw [bne_iff_ne]; omega
      go_wp2_with fail
      refine bodyPost_ret (results_cell_row_tmp (p := 2) (u := 3) (ty := 63) (by kernel_rfl) _ _ w.heap.size 63 #[.int .i64 0, .int .i64 0] (0, 0) _ rfl ((H2.out.2.1.set_ 0 _).set_ 1 _) Tryz.underlying63 rfl (by kernel_rfl)) rfl ?_
      exact ⟨rfl, (H2.out.1.setCell (by simp) _).setCell (by simp) _⟩
  · rw [ofP_400 (.inl hE)] at hR
    subst hR
    have e2 : ((E : Int) != 0) = true := by rw [bne_iff_ne]; omega
    go_wp2_with fail
    refine bodyPost_ret (results_cell_row_tmp (p := 2) (u := 3) (ty := 63) (by kernel_rfl) _ _ w.heap.size 63 #[.int .i64 0, .int .i64 0] (0, 0) _ rfl ((H2.out.2.1.set_ 0 _).set_ 1 _) Tryz.underlying63 rfl (by kernel_rfl)) rfl ?_
    exact ⟨rfl, (H2.out.1.setCell (by simp) _).setCell (by simp) _⟩
end

section
open Go.RowKit
open Go.Maps (Keyed IsMap Tidy setOf)

/-- what a piece of code leaves where it goes on -/
def onNormalF (R : Act → World → Prop) : Exit → Act → World → Prop
  | .normal, a, w => R a w
  | _, _, _ => False
theorem wp_normalF {P : Program} {c : Code} {Q : Exit → Act → World → Prop} {a : Act} {w : World} {R : Act → World → Prop} (h : c.wp P (onNormalF R) a w) (k : ∀ a' w', R a' w' → Q .normal a' w') : c.wp P Q a w :=
  Code.wp_mono (fun e a' w' h => by cases e <;> first | exact k _ _ h | exact h.elim) h
theorem two_of {l : List Nat} (hn : l.Nodup) (h : 1 < l.length) : ∃ a ∈ l, ∃ b ∈ l, a ≠ b :=
  ⟨l[0], List.getElem_mem _, l[1], List.getElem_mem _, List.pairwise_iff_getElem.1 (List.nodup_iff_pairwise_ne.1 hn) 0 1 (by omega) h (by omega)⟩
/-- more than one number: two that differ -/
theorem cnt_any (M : Nat) (L : List Nat) (h : ∀ x ∈ L, x < M) : decide (1 < (List.range M).countP (fun i => L.contains i)) = L.any (fun n => n != L.headD 0) := by
  rw [Bool.eq_iff_iff, decide_eq_true_iff, any_ne, List.countP_eq_length_filter]
  have hm : ∀ x, x ∈ (List.range M).filter (fun i => L.contains i) ↔ x ∈ L := fun x => by
    rw [List.mem_filter, List.mem_range, List.contains_iff_mem]
    exact ⟨fun h => h.2, fun hx => ⟨h x hx, hx⟩⟩
  constructor
  · intro h1
    obtain ⟨a, ha, b, hb, hab⟩ := two_of (List.nodup_range.filter _) h1
    exact ⟨a, (hm a).1 ha, b, (hm b).1 hb, hab⟩
  · rintro ⟨a, ha, b, hb, hab⟩
    have ha' := (hm a).2 ha
    have hb' := (hm b).2 hb
    generalize (List.range M).filter (fun i => L.contains i) = F at ha' hb'
    match F, ha', hb' with
    | [], ha', _ => simp at ha'
    | [x], ha', hb' => simp at ha' hb'; exact absurd (ha'.trans hb'.symm) hab
    | _ :: _ :: _, _, _ => simp
theorem keyNat9 (x : Nat) (h : x < 1000000000) : keyOf Tryz.prog 3 (.int .i64 (x : Int)) = some (.int .i64 (x : Int)) := Maps.keyOf_int_mk Tryz.underlying3 (WalkArith.wf_i64 (by omega))

set_option maxRecDepth 100000 in
set_option maxHeartbeats 16000000 in
theorem pOf (A : Option Addr) (n c : Nat) (l : List Fld) (w : World) (hr : Reads w w.heap.size 2 A n (fldsC l)) (hn : n ≤ 1000) (hl : fldsS l) :
    Calls Tryz.prog 24 #[.slice A n c] w (OfPost (ofT l) w) := by
  obtain rfl := hr.flen
  obtain ⟨W1, hW1⟩ : ∃ W1, (w.alloc (.cells #[.int .i64 0, .int .i64 0] 63)).alloc (.cells #[.slice A l.length c] 97) = W1 := ⟨_, rfl⟩
  have hb1 : Below w.heap.size w W1 := by rw [← hW1]; exact ((Below.refl _ _).alloc (Nat.le_refl _) _).alloc (by simp) _
  have mF : Blk W1 w.heap.size 63 #[.int .i64 0, .int .i64 0] := by rw [← hW1]; exact (Blk.new w _ _).alloc _
  have mR : Blk W1 (w.heap.size + 1) 97 #[.slice A l.length c] := by
    have := Blk.new (w.alloc (.cells #[.int .i64 0, .int .i64 0] 63)) 97 #[.slice A l.length c]
    rw [World.size_alloc] at this
    rw [← hW1]; exact this
  have cL := fun w hr => fLengths A l.length c l w hr hn hl
  have cC := fun w hr => pChunked A l.length c l w hr (by omega) (fldsS_ok hl)
  have cT := fun w hr => fNamed A l.length c l ⟨#[84, 114, 97, 110, 115, 102, 101, 114, 45, 69, 110, 99, 111, 100, 105, 110, 103]⟩ w hr (by omega) (fldsS_ok hl) (by decide)
  have cV := fun w hr => fNamed A l.length c l ⟨#[67, 111, 110, 116, 101, 110, 116, 45, 76, 101, 110, 103, 116, 104]⟩ w hr (by omega) (fldsS_ok hl) (by decide)
  unfold TextsPost at cT cV
  unfold LensPost at cL
  rw [show (⟨#[84, 114, 97, 110, 115, 102, 101, 114, 45, 69, 110, 99, 111, 100, 105, 110, 103]⟩ : ByteArray).data.toList = teN from rfl] at cT
  rw [show (⟨#[67, 111, 110, 116, 101, 110, 116, 45, 76, 101, 110, 103, 116, 104]⟩ : ByteArray).data.toList = clN from rfl] at cV
  have hLb : (lensT (valuesL clN l)).1.length ≤ 1000000 ∧ ∀ x ∈ (lensT (valuesL clN l)).1, x < 1000000000 := by
    obtain ⟨h1, h2⟩ := lensP_len (piecesL (valuesL clN l))
    refine ⟨?_, h2⟩
    have h3 := pieces_take_len (valuesL clN l) (by have := valuesL_len clN l; omega) (fldsS_values hl clN) (valuesL clN l).length
    rw [List.take_length] at h3
    have : (lensT (valuesL clN l)).1.length ≤ (piecesL (valuesL clN l)).length := h1
    omega
  have hbo := ofP_both l
  unfold ofT
  obtain ⟨⟨L, E⟩, hLE⟩ : ∃ z, lensT (valuesL clN l) = z := ⟨_, rfl⟩
  obtain ⟨⟨C, F⟩, hCF⟩ : ∃ z, chunkT (valuesL teN l) = z := ⟨_, rfl⟩
  rw [hLE] at cL hLb hbo ⊢
  rw [hCF] at cC hbo ⊢
  simp only at cL cC hLb hbo ⊢
  obtain ⟨T, hT⟩ : ∃ z, valuesL teN l = z := ⟨_, rfl⟩
  obtain ⟨V, hV⟩ : ∃ z, valuesL clN l = z := ⟨_, rfl⟩
  rw [hT] at cT hbo
  rw [hV] at cV hbo
  obtain ⟨R, hR⟩ : ∃ R, ofP L E C F = R := ⟨_, rfl⟩
  rw [hR]
  unfold OfPost
  have hHR := (hr.below hb1).more hb1.size
  have H1 := Lib.hid (And.intro hHR (And.intro hb1 (And.intro mF mR)))
  have CL := Lib.hid cL
  have CC := Lib.hid cC
  have CT := Lib.hid cT
  have CV := Lib.hid cV
  have HL := Lib.hid (And.intro hLb (And.intro hbo hR))
  have p0 : W1.cell? ⟨w.heap.size + 1, 0, none⟩ = some (.slice A l.length c) := mR.cell 0
  clear cL cC cT cV hr hl hb1 mF mR hLE hCF hT hV hLb hbo hR hn hHR
  have hmm := @run_makeMap Tryz.prog
  go_enter Tryz.func24, Tryz.ntmps24
  go_wp2_with fail
  (with_reducible refine (CC.out _ H1.out.1).mono ?_); rintro e w2 ⟨rfl, g2⟩
  have H2 := Lib.hid (And.intro ((H1.out.1.below g2).more g2.size) (And.intro (H1.out.2.1.trans (g2.mono H1.out.2.1.size)) (And.intro (H1.out.2.2.1.below g2 H1.out.2.2.1.lt) (H1.out.2.2.2.below g2 H1.out.2.2.2.lt))))
  clear p0 g2 H1 CC hW1
  have p0 : w2.cell? ⟨w.heap.size + 1, 0, none⟩ = some (.slice A l.length c) := H2.out.2.2.2.cell 0
  go_wp2_with fail
  (with_reducible refine (CL.out _ H2.out.1).mono ?_); rintro e w3 ⟨A3, q3, rfl, _, hr3, g3⟩
  have H3 := Lib.hid (And.intro ((H2.out.1.below g3).more g3.size) (And.intro (H2.out.2.1.trans (g3.mono H2.out.2.1.size)) (And.intro (H2.out.2.2.1.below g3 H2.out.2.2.1.lt) (H2.out.2.2.2.below g3 H2.out.2.2.2.lt))))
  have HR3 := Lib.hid hr3
  clear p0 g3 H2 CL hr3
  have p0 : w3.cell? ⟨w.heap.size + 1, 0, none⟩ = some (.slice A l.length c) := H3.out.2.2.2.cell 0
  obtain ⟨BO, hBO⟩ : ∃ BO, (decide (0 < T.length) && decide (0 < V.length)) = BO := ⟨_, rfl⟩
  have HBO := Lib.hid hBO
  clear hBO
  go_upto_region 4 with fail
  refine wp_normalF (R := fun a' w' => ∃ (v26 v27 v28 v29 v30 v31 v32 v33 v34 v35 v36 v37 : Value), a' = ({ tmps := #[.slice A l.length c, undef, .pointer (some ⟨w.heap.size, 0, none⟩), .int .i64 0, .pointer (some ⟨w.heap.size + 1, 0, none⟩), .bool C, .int .i64 F, .slice A3 L.length q3, .int .i64 E, .bool BO, undef, undef, undef, .slice A l.length c, .agg #[.slice A l.length c], .agg #[.slice A l.length c], .tuple #[.bool C, .int .i64 F], .agg #[.slice A l.length c], .tuple #[.bool C, .int .i64 F], .bool C, .int .i64 F, .tuple #[.slice A3 L.length q3, .int .i64 E], .agg #[.slice A l.length c], .tuple #[.slice A3 L.length q3, .int .i64 E], .slice A3 L.length q3, .int .i64 E, v26, v27, v28, v29, v30, v31, v32, v33, v34, v35, v36, v37, undef, undef, undef, undef, undef, undef, undef, undef, undef, undef, undef, undef, undef, undef, undef, undef, undef, undef, undef, undef, undef, undef, undef, undef, undef, undef, undef, undef, undef, undef, undef, undef, undef, undef, undef, undef, undef, undef, undef, undef, undef, undef, undef, undef], defers := [] } : Act) ∧ Hid (Below w3.heap.size w3 w')) ?region4 ?post4
  case region4 =>
    by_cases hT0 : 0 < T.length
    · have d1 : decide ((0 : Int) < (T.length : Int)) = true := by simp; omega
      go_wp2_with fail
      (with_reducible refine (CT.out _ H3.out.1).mono ?_); rintro e w4 ⟨A4, q4, rfl, _, _, g4⟩
      have p1 : w4.cell? ⟨w.heap.size + 1, 0, none⟩ = some (.slice A l.length c) := (H3.out.2.2.2.below g4 H3.out.2.2.2.lt).cell 0
      have hr4 := (H3.out.1.below g4).more g4.size
      go_wp2_with fail
      (with_reducible refine (CV.out _ hr4).mono ?_); rintro e w5 ⟨A5, q5, rfl, _, _, g5⟩
      have g35 := g4.trans (g5.mono g4.size)
      have hB : (decide (0 < V.length)) = BO := by
        rw [← HBO.out, decide_eq_true hT0]
        simp
      have hB' : (decide ((0 : Int) < (V.length : Int))) = BO := by
        rw [← hB, decide_eq_decide]
        omega
      clear p0 p1
      go_wp2_with fail
      exact ⟨⟨_, _, _, _, _, _, _, _, _, _, _, _, rfl⟩, g35⟩
    · have d1 : decide ((0 : Int) < (T.length : Int)) = false := by rw [decide_eq_false_iff_not]; omega
      have hB : BO = false := by
        rw [← HBO.out, decide_eq_false hT0]
        rfl
      subst hB
      go_wp2_with fail
      (with_reducible refine (CT.out _ H3.out.1).mono ?_); rintro e w4 ⟨A4, q4, rfl, _, _, g4⟩
      have p1 : w4.cell? ⟨w.heap.size + 1, 0, none⟩ = some (.slice A l.length c) := (H3.out.2.2.2.below g4 H3.out.2.2.2.lt).cell 0
      clear p0
      go_wp2_with fail
      exact ⟨⟨_, _, _, _, _, _, _, _, _, _, _, _, rfl⟩, g4⟩
  case post4 =>
  rintro a' w5 ⟨v26, v27, v28, v29, v30, v31, v32, v33, v34, v35, v36, v37, rfl, hg⟩
  have hb5 : Below w.heap.size w w5 := H3.out.2.1.trans (hg.out.mono H3.out.2.1.size)
  have k5 := H3.out.2.2.1.below hg.out H3.out.2.2.1.lt
  have rL := (HR3.out.below hg.out).more hg.out.size
  obtain ⟨w6, hw6⟩ : ∃ w6, w5.alloc (.map #[] 0) = w6 := ⟨_, rfl⟩
  have hM6 : w6.ownsMap Tryz.prog 3 (plainElem (H := Unit) Tryz.prog 4) w5.heap.size 0 (setOf (.lit (.bool true)) (natKeys (L.take 0))) := by
    have := World.ownsMap_made (H := Unit) w5 Tryz.prog 3 (plainElem (H := Unit) Tryz.prog 4)
    rw [hw6] at this
    exact this
  have hb6 : Below w5.heap.size w5 w6 := by rw [← hw6]; exact (Below.refl _ _).alloc (Nat.le_refl _) _
  have H6 := Lib.hid (And.intro hb5 (And.intro k5 (And.intro rL (And.intro hb6 hM6))))
  clear p0 hg hb5 k5 rL hb6 hM6 H3 HR3 CT CV
  go_wp2_with fail
  try rw [hw6]
  clear hw6
  go_loopw [41] (fun i wr => ∃ j : Nat, i = .int .i64 j ∧ j ≤ L.length ∧ Hid (wr.ownsMap Tryz.prog 3 (plainElem (H := Unit) Tryz.prog 4) w5.heap.size j (setOf (.lit (.bool true)) (natKeys (L.take j)))) ∧ Hid (w6.grownBy wr (some w5.heap.size))) (fun i _ => L.length - (intOf i).toNat)
  case atStart => exact ⟨0, rfl, by omega, H6.out.2.2.2.2, hide (World.grownBy.refl _ _)⟩
  case round =>
    obtain ⟨j, rfl, hj, HMj, hg⟩ := hrel
    rename World => X0
    have hLL := HL.out.1.1
    by_cases hjl : j < L.length
    · obtain ⟨b1, o1, rfl, hbl1, q1⟩ := H6.out.2.2.1.num j hjl
      have q6 := (H6.out.2.2.2.1.cell (p := ⟨b1, o1 + j, none⟩) hbl1).trans q1
      have d0 := hg.out.cell q6 (by simp; omega)
      have hxl := HL.out.1.2 L[j] (List.getElem_mem hjl)
      have htj : L.take (j + 1) = L.take j ++ [L[j]] := List.take_succ_eq_append_getElem hjl
      obtain ⟨x, hx⟩ : ∃ x, L[j] = x := ⟨_, rfl⟩
      rw [hx] at d0 hxl htj
      have hkey := keyNat9 x hxl
      have HMj := HMj.out
      have HT := Lib.hid htj
      have j0 : (0 : Int) ≤ (j : Int) := by omega
      have j1 : (j : Int) < (L.length : Int) := by omega
      clear q1 q6 hx htj
      go_wp2_with (at_mapUpdate; refine wpList_mapUpdate_own _ rfl _ _ _ 103 rfl 3 4 lawInt Tryz.underlying103 _ w5.heap.size j _ rfl HMj (by unfold maxLen; omega) _ _ _ rfl rfl hkey _ [] (plainElem_bool Tryz.underlying4 true) ?_; intro w7 hown7 hg7)
      go_roundw
      case rel => exact ⟨j + 1, by go_num, by omega, hide (by rw [HT.out, natKeys_app _ [x], show natKeys [x] = [Lit.int .i64 (x : Int)] from rfl, Maps.setOf_snoc]; exact hown7), hide (hg.out.trans hg7)⟩
      case measure => simp [intOf]; omega
    · obtain rfl : j = L.length := by omega
      have hd2 : decide ((L.length : Int) < (L.length : Int)) = false := by simp
      have hM8 := HMj.out
      rw [List.take_length] at hM8
      have hsz := size_nats 1000000000 (.lit (.bool true)) L HL.out.1.2
      have hcnt := cnt_any 1000000000 L HL.out.1.2
      rw [← hsz] at hcnt
      have hbX : Below w.heap.size w X0 := (H6.out.1.trans (H6.out.2.2.2.1.mono H6.out.1.size)).grown hg.out (by have := H6.out.1.size; have := H6.out.2.2.2.1.size; omega) (fun k e => by injection e with e; have := H6.out.1.size; omega)
      have kX : Blk X0 w.heap.size 63 #[.int .i64 0, .int .i64 0] := (H6.out.2.1.below H6.out.2.2.2.1 H6.out.2.1.lt).grown hg.out (fun e => by injection e with e; have := H6.out.2.1.lt; omega)
      have rX : ∀ k (hk : k < L.length), ∃ b o, A3 = some ⟨b, o, none⟩ ∧ X0.cell? ⟨b, o + k, none⟩ = some (.int .i64 (L[k] : Int)) := by
        intro k hk
        obtain ⟨b1, o1, e, hbl1, q1⟩ := H6.out.2.2.1.num k hk
        have q6 := (H6.out.2.2.2.1.cell (p := ⟨b1, o1 + k, none⟩) hbl1).trans q1
        exact ⟨b1, o1, e, hg.out.cell q6 (by simp; omega)⟩
      have f0 : X0.frozen? ⟨w.heap.size, 0, none⟩ = false := kX.frozen 0
      have f1 : X0.frozen? ⟨w.heap.size, 1, none⟩ = false := kX.frozen 1
      have z0 : X0.cell? ⟨w.heap.size, 0, none⟩ = some (.int .i64 0) := kX.cell 0
      have z1 : X0.cell? ⟨w.heap.size, 1, none⟩ = some (.int .i64 0) := kX.cell 1
      have hbo := HL.out.2.1
      have hRR := HL.out.2.2
      have hBo : BO = true ↔ (T ≠ [] ∧ V ≠ []) := by
        rw [← HBO.out, Bool.and_eq_true, decide_eq_true_iff, decide_eq_true_iff, List.length_pos_iff, List.length_pos_iff]
      rw [← hBo] at hbo
      have HX := Lib.hid (And.intro hbX kX)
      have HM8 := Lib.hid hM8
      have HCN := Lib.hid hcnt
      clear hM8 hsz hcnt hbX kX hBo HMj hg
      cases hBB : BO with
      | true =>
        subst hBB
        have hres : R = (0, 0, 400) := by rw [← hRR]; exact ofP_400 (hbo.1 (.inl rfl))
        subst hres
        clear hbo rX hRR
        go_wp2_with fail
        refine bodyPost_ret (results_cell_row_tmp (p := 2) (u := 3) (ty := 63) (by kernel_rfl) _ _ w.heap.size 63 #[.int .i64 0, .int .i64 0] (0, 0) _ rfl ((HX.out.2.set_ 0 _).set_ 1 _) Tryz.underlying63 rfl (by kernel_rfl)) rfl ?_
        exact ⟨rfl, (HX.out.1.setCell (by simp) _).setCell (by simp) _⟩
      | false =>
        subst hBB
        by_cases hF : F = 0
        · subst hF
          by_cases hE : E = 0
          · subst hE
            have hgood : ¬ (C = true ∧ L ≠ []) := fun h => by
              rcases hbo.2 (.inr (.inr h)) with h | h | h
              · cases h
              · exact h rfl
              · exact h rfl
            rw [ofP_good L C hgood] at hRR
            have hCL : C = true → L.length = 0 := fun h => by
              refine Classical.byContradiction fun hl => hgood ⟨h, fun e => hl (by rw [e]; rfl)⟩
            have e0 : (((0 : Nat) : Int) != 0) = false := rfl
            obtain ⟨SZ, hSZ⟩ : ∃ SZ, Maps.size (setOf (.lit (.bool true)) (natKeys L) : DataW Unit) = SZ := ⟨_, rfl⟩
            have hcn := HCN.out
            rw [hSZ] at hcn
            rw [← hcn] at hRR
            have hlen := HM8.out.len Tryz.underlying103 3
            rw [hSZ] at hlen
            clear hbo hgood
            by_cases hS : 1 < SZ
            · have ds : decide ((1 : Int) < (SZ : Int)) = true := by simp; omega
              have ds2 : decide (1 < SZ) = true := by simp; omega
              rw [ds2, if_pos rfl] at hRR
              subst hRR
              clear rX
              go_wp2_with fail
              refine bodyPost_ret (results_cell_row_tmp (p := 2) (u := 3) (ty := 63) (by kernel_rfl) _ _ w.heap.size 63 #[.int .i64 0, .int .i64 0] (0, 0) _ rfl ((HX.out.2.set_ 0 _).set_ 1 _) Tryz.underlying63 rfl (by kernel_rfl)) rfl ?_
              exact ⟨rfl, (HX.out.1.setCell (by simp) _).setCell (by simp) _⟩
            · have ds : decide ((1 : Int) < (SZ : Int)) = false := by simp; omega
              have ds2 : decide (1 < SZ) = false := by simp; omega
              rw [ds2, if_neg (by simp)] at hRR
              cases hCC : C with
              | true =>
                subst hCC
                rw [if_pos rfl] at hRR
                subst hRR
                clear rX
                go_wp2_with fail
                refine bodyPost_ret (results_cell_row_tmp (p := 2) (u := 3) (ty := 63) (by kernel_rfl) _ _ w.heap.size 63 #[.int .i64 3, .int .i64 0] (0, 0) _ rfl ((HX.out.2.set_ 0 _).set_ 1 _) Tryz.underlying63 rfl (by kernel_rfl)) rfl ?_
                exact ⟨rfl, (HX.out.1.setCell (by simp) _).setCell (by simp) _⟩
              | false =>
                subst hCC
                rw [if_neg (by simp)] at hRR
                by_cases hL0 : L = []
                · rw [if_pos hL0] at hRR
                  subst hRR
                  have dz : ((L.length : Int) == 0) = true := by rw [hL0]; rfl
                  clear rX hL0
                  go_wp2_with fail
                  refine bodyPost_ret (results_cell_row_tmp (p := 2) (u := 3) (ty := 63) (by kernel_rfl) _ _ w.heap.size 63 #[.int .i64 1, .int .i64 0] (0, 0) _ rfl ((HX.out.2.set_ 0 _).set_ 1 _) Tryz.underlying63 rfl (by kernel_rfl)) rfl ?_
                  exact ⟨rfl, (HX.out.1.setCell (by simp) _).setCell (by simp) _⟩
                · rw [if_neg hL0] at hRR
                  have hLn : 0 < L.length := List.length_pos_iff.2 hL0
                  obtain ⟨b, o, rfl, c2⟩ := rX 0 hLn
                  have hhd : L[0] = L.headD 0 := by cases L with
                    | nil => simp at hLn
                    | cons y r => rfl
                  obtain ⟨y, hy⟩ : ∃ y, L.headD 0 = y := ⟨_, rfl⟩
                  rw [hhd, hy] at c2
                  rw [hy] at hRR
                  have c3 : X0.cell? ⟨b, o, none⟩ = some (.int .i64 (y : Int)) := c2
                  have dz : ((L.length : Int) == 0) = false := beq_eq_false_iff_ne.2 (by omega)
                  have i2 : (0 : Int) < (L.length : Int) := by omega
                  clear rX hL0 hy hhd c2
                  by_cases hbig : 2048 < y
                  · rw [if_pos hbig] at hRR
                    subst hRR
                    have db : decide ((2048 : Int) < (y : Int)) = true := by simp; omega
                    go_wp2_with fail
                    refine bodyPost_ret (results_cell_row_tmp (p := 2) (u := 3) (ty := 63) (by kernel_rfl) _ _ w.heap.size 63 #[.int .i64 0, .int .i64 0] (0, 0) _ rfl ((HX.out.2.set_ 0 _).set_ 1 _) Tryz.underlying63 rfl (by kernel_rfl)) rfl ?_
                    exact ⟨rfl, (HX.out.1.setCell (by simp) _).setCell (by simp) _⟩
                  · rw [if_neg hbig] at hRR
                    subst hRR
                    have db : decide ((2048 : Int) < (y : Int)) = false := by simp; omega
                    go_wp2_with fail
                    refine bodyPost_ret (results_cell_row_tmp (p := 2) (u := 3) (ty := 63) (by kernel_rfl) _ _ w.heap.size 63 #[.int .i64 2, .int .i64 y] (0, 0) _ rfl ((HX.out.2.set_ 0 _).set_ 1 _) Tryz.underlying63 rfl (by kernel_rfl)) rfl ?_
                    exact ⟨rfl, (HX.out.1.setCell (by simp) _).setCell (by simp) _⟩
          · have e2 : ((E : Int) != 0) = true := by rw [bne_iff_ne]; omega
            have e0 : (((0 : Nat) : Int) != 0) = false := rfl
            have hres : R = (0, 0, 400) := by rw [← hRR]; exact ofP_400 (.inl hE)
            subst hres
            clear hbo rX hRR
            go_wp2_with fail
            refine bodyPost_ret (results_cell_row_tmp (p := 2) (u := 3) (ty := 63) (by kernel_rfl) _ _ w.heap.size 63 #[.int .i64 0, .int .i64 0] (0, 0) _ rfl ((HX.out.2.set_ 0 _).set_ 1 _) Tryz.underlying63 rfl (by kernel_rfl)) rfl ?_
            exact ⟨rfl, (HX.out.1.setCell (by simp) _).setCell (by simp) _⟩
        · have e2 : ((F : Int) != 0) = true := by rw [bne_iff_ne]; omega
          have hres : R = (0, 0, 400) := by rw [← hRR]; exact ofP_400 (.inr (.inl hF))
          subst hres
          clear hbo rX hRR
          go_wp2_with fail
          refine bodyPost_ret (results_cell_row_tmp (p := 2) (u := 3) (ty := 63) (by kernel_rfl) _ _ w.heap.size 63 #[.int .i64 0, .int .i64 0] (0, 0) _ rfl ((HX.out.2.set_ 0 _).set_ 1 _) Tryz.underlying63 rfl (by kernel_rfl)) rfl ?_
          exact ⟨rfl, (HX.out.1.setCell (by simp) _).setCell (by simp) _⟩
end
end Go.Proofs.YtencphfhpnljlaaGreatDoor
