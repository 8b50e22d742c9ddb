/-
  The contract of package token's List: the loop over the elements.
-/
import Derived.Test.YtepemdmjbfoiaaaDoorTl1
import Derived.Maps.AppendAt
namespace Go.Proofs.YtepemdmjbfoiaaaDoor
open Go.RowKit Go.Shelf
attribute [local go_sem] Oper.semAt_some

theorem infoStr : (Tryd.prog.info? 9).map (fun i => (i.zero, i.size, i.bytes)) = some (some (.string .empty), 1, 16) := by kernel_rfl
def pickB (pre : List ByteArray) : List (List UInt8) := (pre.map (·.data.toList)).filterMap pickE
def okB (pre : List ByteArray) : Prop := ∀ x ∈ pre, badE x.data.toList = false

theorem pickB_snoc (pre : List ByteArray) (x : ByteArray) : pickB (pre ++ [x]) = pickB pre ++ (pickE x.data.toList).toList := by
  simp [pickB, List.filterMap_append, List.filterMap_cons]
  cases pickE x.data.toList <;> simp
theorem pickB_len (pre : List ByteArray) : (pickB pre).length ≤ pre.length := by
  unfold pickB; exact Nat.le_trans (List.length_filterMap_le _ _) (by simp)
theorem okB_snoc {pre : List ByteArray} {x : ByteArray} (h : okB pre) (hx : badE x.data.toList = false) : okB (pre ++ [x]) := by
  intro y hy
  rcases List.mem_append.1 hy with hy | hy
  · exact h y hy
  · rw [List.mem_singleton.1 hy]; exact hx

/-- between two rounds: the results' boxes as they were made, the box of what has been collected, what lay lies -/
def LI (w : World) (H : Nat) (pre : List ByteArray) (W : World) : Prop :=
  (okB pre ∧ Boxed W w.heap.size 24 (.slice none 0 0) ∧ Boxed W (w.heap.size + 1) 26 (.int .i64 0) ∧ H + 4 ≤ W.heap.size) ∧
  (∃ v, Boxed W H 24 v ∧ W.ownsRow (H + 4) 9 1 v (pickB pre).length (strs (pickB pre)) ∧ True) ∧ Below w.heap.size w W
/-- left by the return of the error -/
def LX (w : World) (c : Code) (pre : List ByteArray) (W : World) : Prop :=
  (c = .ret ∧ ¬ okB pre ∧ Boxed W w.heap.size 24 (.slice none 0 0) ∧ Boxed W (w.heap.size + 1) 26 (.int .i64 3)) ∧ Below w.heap.size w W
theorem boxed_own' {β : Type} (B : Nat) (t : TypeId) (v : β → Value) : Own (fun s W => Boxed W B t (v s)) := by
  intro s X Y row h hg hr
  exact h.kept hg fun e => by
    obtain ⟨o, ho, hc⟩ := hr B e.symm
    rw [show X.heap[B]? = _ from h] at ho; cases ho; cases hc
theorem LI_own (w : World) (H N : Nat) (hN : w.heap.size ≤ N) : OwnFrom N (LI w H) := by
  refine OwnFrom.and (Own.from (fun s X Y row h hg hr => ⟨h.1, boxed_own' (β := Unit) _ _ (fun _ => .slice none 0 0) () X Y row h.2.1 hg hr, boxed_own' (β := Unit) _ _ (fun _ => .int .i64 0) () X Y row h.2.2.1 hg hr, Nat.le_trans h.2.2.2 hg.size⟩) _)
    (OwnFrom.and (Own.from (holdsRow_own (H + 4) H 24 9 1 (fun pre => (pickB pre).length) (fun pre => strs (pickB pre)) (fun _ _ => True)) _) (ownFrom_below (Nat.le_refl _) hN))
theorem LX_own (w : World) (c : Code) (N : Nat) (hN : w.heap.size ≤ N) : OwnFrom N (LX w c) := by
  refine OwnFrom.and (Own.from (fun s X Y row h hg hr => ⟨h.1, h.2.1, boxed_own' (β := Unit) _ _ (fun _ => .slice none 0 0) () X Y row h.2.2.1 hg hr, boxed_own' (β := Unit) _ _ (fun _ => .int .i64 3) () X Y row h.2.2.2 hg hr⟩) _)
    (ownFrom_below (Nat.le_refl _) hN)
theorem LI_st (w : World) (H : Nat) (hH : w.heap.size + 1 < H) (pre : List ByteArray) (A B : World) (h : LI w H pre A) (hs : splitSt (H + 1) A B) : LI w H pre B := by
  obtain ⟨⟨h1, h2, h3, hz⟩, ⟨v, h4, h5, _⟩, h6⟩ := h
  have ne : ∀ {k : Nat}, k ≠ H + 1 → some k ≠ some (H + 1) := fun hk e => hk (by injection e)
  refine ⟨⟨h1, h2.kept hs.1 (ne (by omega)), h3.kept hs.1 (ne (by omega)), Nat.le_trans hz hs.1.size⟩, ⟨v, h4.kept hs.1 (ne (by omega)), h5.kept hs.1 (.inr ?_), trivial⟩, h6.grown hs.1 h6.size fun k e => by injection e; omega⟩
  intro e
  have := own_ge h5 _ e
  omega
theorem LI_below {w : World} {H : Nat} {pre pre' : List ByteArray} {A B : World} (h : LI w H pre A) (hb : Below A.heap.size A B) (hok : okB pre → okB pre') (hp : pickB pre' = pickB pre) : LI w H pre' B := by
  obtain ⟨⟨h1, h2, h3, hz⟩, ⟨v, h4, h5, _⟩, h6⟩ := h
  have kb : ∀ {k : Nat} {t : TypeId} {u : Value}, Boxed A k t u → Boxed B k t u := fun hk => (hb.block _ hk.lt).trans hk
  refine ⟨⟨hok h1, kb h2, kb h3, Nat.le_trans hz hb.size⟩, ⟨v, kb h4, ?_, trivial⟩, h6.trans (hb.mono h6.size)⟩
  rw [hp]
  exact h5.kept (only_of_below hb none) (by
    rcases h5.2 with ⟨rfl, _⟩ | ⟨g, cap, cur, rfl, _⟩
    · exact .inl rfl
    · exact .inr (by simp [Value.ownBlock]))
/-- one more token collected -/
theorem LI_add {w : World} {H : Nat} {pre : List ByteArray} {x : ByteArray} {A W5 : World} {v v' : Value} {y : List UInt8} (hH : w.heap.size + 1 < H) (h1 : okB pre) (h2 : Boxed A w.heap.size 24 (.slice none 0 0)) (h3 : Boxed A (w.heap.size + 1) 26 (.int .i64 0))
    (hz : H + 4 ≤ A.heap.size) (h4 : Boxed A H 24 v) (h5 : A.ownsRow (H + 4) 9 1 v (pickB pre).length (strs (pickB pre))) (h6 : Below w.heap.size w A) (hx : badE x.data.toList = false) (hp : pickE x.data.toList = some y)
    (hown : W5.ownsRow (H + 4) 9 1 v' ((pickB pre).length + 1) (strs (pickB pre) ++ [.string (bs y)])) (hg : A.grownBy W5 v.ownBlock) :
    Boxed W5 H 24 v ∧ KeepsFrom (H + 4) A (W5.setCell ⟨H, 0, none⟩ v') ∧ splitKp (H + 1) A (W5.setCell ⟨H, 0, none⟩ v') ∧ LI w H (pre ++ [x]) (W5.setCell ⟨H, 0, none⟩ v') := by
  have n2 := h2.not_row (show (24 : TypeId) ≠ 9 by decide) h5
  have n3 := h3.not_row (show (26 : TypeId) ≠ 9 by decide) h5
  have n4 := h4.not_row (show (24 : TypeId) ≠ 9 by decide) h5
  have b4 : Boxed W5 H 24 v := h4.kept hg n4
  have m4 := b4.not_row (show (24 : TypeId) ≠ 9 by decide) hown
  have ne : ∀ {k : Nat}, k ≠ H → some k ≠ some H := fun hk e => hk (by injection e)
  have e : pickB (pre ++ [x]) = pickB pre ++ [y] := by rw [pickB_snoc, hp]; rfl
  have hge := own_ge h5
  refine ⟨b4, ?_, ?_, ⟨⟨okB_snoc h1 hx, (h2.kept hg n2).kept (grownBy_setCell' _ _ _) (ne (by omega)), (h3.kept hg n3).kept (grownBy_setCell' _ _ _) (ne (by omega)), ?_⟩,
    ⟨v', b4.set v', ?_, trivial⟩, ?_⟩⟩
  · exact (keepsFrom_grown h5 hg).trans (keepsFrom_set _ _ _ _)
  · exact splitKp_trans (splitKp_grown hg fun g eg => by have := hge g eg; omega) (splitKp_set _ _ _ (by omega))
  · exact Nat.le_trans hz (Nat.le_trans hg.size (grownBy_setCell' W5 H v').size)
  · rw [e, strs_app, List.length_append]
    exact hown.kept (grownBy_setCell' W5 H v') (.inr m4.symm)
  · exact (h6.grown hg h6.size fun k ek => by have := hge k ek; omega).setCell (p := ⟨H, 0, none⟩) (by simp only; omega) v'

set_option maxRecDepth 100000 in
set_option maxHeartbeats 4000000 in
theorem TList_main (s : ByteArray) (w : World) (hs : s.size ≤ 1024) (h : isVal s.data.toList = true) :
    Calls Tryd.prog 23 #[.string s] w (ListPost (listT s.data.toList) w) := by
  have hd : decide ((1024 : Int) < (s.size : Int)) = false := by simp; omega
  have cV := fun w => TValue_any s w (by omega)
  rw [h] at cV
  have CV := Lib.hid cV
  have CS := Lib.hid (fun w => SSeq_any s 44 w)
  clear cV
  have HH := Lib.hid h
  clear h
  refine (callsIn_wide (n := 6)).1 ?_
  refine callsIn_of_wp_marks Tryd.func23 rfl trivial ?_ rfl
  simp only [Tryd.ntmps23, List.size_toArray, List.length_cons, List.length_nil, Nat.reduceAdd, Nat.reduceSub, Array.replicate_succ, Array.replicate_zero, List.push_toArray, List.append_toArray, List.nil_append, List.cons_append]
  gi_wp2
  refine wpIn_scope_straight ?_
  gi_wp2_with (refine ⟨trivial, ?_⟩; gi_at_call 29; refine (callsIn_wide.2 (CV.out _)).mono ?_; rintro e w1 ⟨rfl, hb1⟩)
  refine wpIn_label ?_
  obtain ⟨H, hH⟩ : ∃ H, w1.heap.size = H := ⟨_, rfl⟩
  have hsz := hb1.size
  have hHw : w.heap.size + 1 < H := by rw [← hH]; simp at hsz; omega
  obtain ⟨w2, hw2⟩ : ∃ w2, w1.alloc (.cells #[.slice none 0 0] 24) = w2 := ⟨_, rfl⟩
  have hs2 : w2.heap.size = H + 1 := by rw [← hw2, ← hH]; simp
  have n0 := Boxed.new w 24 (.slice none 0 0)
  have n1 := Boxed.new (w.alloc (.cells #[.slice none 0 0] 24)) 26 (.int .i64 0)
  rw [World.size_alloc] at n1
  have n2 := Boxed.new w1 24 (.slice none 0 0)
  rw [hw2, hH] at n2
  have k0 : Boxed w2 w.heap.size 24 (.slice none 0 0) := by rw [← hw2]; exact Boxed.alloc ((hb1.block _ (by simp; omega)).trans (n0.alloc _)) _
  have k1 : Boxed w2 (w.heap.size + 1) 26 (.int .i64 0) := by rw [← hw2]; exact Boxed.alloc ((hb1.block _ (by simp)).trans n1) _
  have hB2 : Below w.heap.size w w2 := by
    rw [← hw2]
    exact (((((Below.refl _ _).alloc (Nat.le_refl _) _).alloc (by simp) _).trans (hb1.mono (by simp; omega)))).alloc (by simp at hsz; omega) _
  have hI2 : ∀ w4, Below w2.heap.size w2 w4 → H + 4 ≤ w4.heap.size → LI w H [] w4 := fun w4 hb hz => by
    have kb : ∀ {k : Nat} {t : TypeId} {u : Value}, Boxed w2 k t u → Boxed w4 k t u := fun hk => (hb.block _ hk.lt).trans hk
    exact ⟨⟨fun x hx => by simp at hx, kb k0, kb k1, hz⟩, ⟨_, kb n2, World.ownsRow_nil _ _ _ _, trivial⟩, hB2.trans (hb.mono hB2.size)⟩
  have H0 := Lib.hid (And.intro hI2 (And.intro hs2 hHw))
  rw [hw2, hH]
  clear hw2 hsz n0 n1 n2 k0 k1 hB2 hI2 hs2 hb1 hd
  gi_wp2_with (refine ⟨trivial, ?_⟩; gi_at_call 99; refine (callsIn_wide.2 (CS.out _)).mono ?_; rintro e w3 ⟨rfl, rfl⟩)
  obtain ⟨hI2, hs2, hHw⟩ := H0.out
  clear H0
  obtain ⟨w4, hw4⟩ : ∃ w4, ((w2.alloc (.cells #[.string s] 9)).alloc (.cells #[.string ⟨#[44]⟩] 9)).alloc (.cells #[.int .i64 0] 3) = w4 := ⟨_, rfl⟩
  have hs4 : w4.heap.size = H + 4 := by rw [← hw4]; simp [hs2]
  have hb4 : Below w2.heap.size w2 w4 := by rw [← hw4]; exact (((Below.refl _ _).alloc (Nat.le_refl _) _).alloc (by simp) _).alloc (by simp; omega) _
  have hG : splitG (H + 1) s 44 w4 := by
    have m0 := Boxed.new w2 9 (.string s)
    have m1 := Boxed.new (w2.alloc (.cells #[.string s] 9)) 9 (.string ⟨#[44]⟩)
    have m2 := Boxed.new ((w2.alloc (.cells #[.string s] 9)).alloc (.cells #[.string ⟨#[44]⟩] 9)) 3 (.int .i64 0)
    simp only [World.size_alloc, hs2] at m0 m1 m2
    rw [← hw4]
    exact ⟨(m0.alloc _).alloc _, m1.alloc _, m2⟩
  have hI4 : LI w H [] w4 := hI2 w4 hb4 (by omega)
  rw [hw4, hs2]
  clear hw4 hI2 hb4 hs2
  refine wpIn_rangeFunc_st (F := Fence.wide) (n := 6) rfl (by omega) (gf := 155) (lb := #[.pointer (some ⟨H + 1 + 1, 0, none⟩), .pointer (some ⟨H + 1, 0, none⟩), .pointer (some ⟨H + 1 + 2, 0, none⟩)]) rfl trivial (enters_of Tryd.func155 (by kernel_rfl) rfl)
    (split_st 5 (by omega) (H + 1) s 44 (by omega)) hG (fun W o h => splitG_alloc W o h) (fun A B h => h.2) (fun h k => splitKp_trans h k) (fun W l o hl => splitKp_put W l o (by omega)) (fun _ => rfl)
    (LI w H) (LX w) (LI_own w H _ (by omega)) (fun c => LX_own w c _ (by omega)) (LI_st w H hHw) hI4
    (fun x => { tmps := #[.string s, undef, .pointer (some ⟨w.heap.size, 0, none⟩), .pointer (some ⟨w.heap.size + 1, 0, none⟩), .pointer (some ⟨H, 0, none⟩), .string x, .string s, .int .i64 s.size, .bool false, .string s, .bool true, .bool false, .string s,
      .func (.func 155) #[] #[.pointer (some ⟨H + 1 + 1, 0, none⟩), .pointer (some ⟨H + 1, 0, none⟩), .pointer (some ⟨H + 1 + 2, 0, none⟩)], .string x, undef, undef, undef, undef, undef, undef, undef, undef, undef, undef, undef, undef, undef, undef, undef], defers := [] }) ?assign ?body ?done ?stop
  case assign =>
    intro l x W K hK
    gi_wp2
    exact hK
  case body =>
    rintro l pre x W hI hpre
    have hxs : x.size ≤ 1000000 ∧ pre.length ≤ 1025 := by
      obtain ⟨h1, h2⟩ := splitC_len 44 s.data.toList
      rw [size_l] at h1 h2
      refine ⟨?_, ?_⟩
      · obtain ⟨y, hy, rfl⟩ := List.mem_map.1 (hpre.subset (List.mem_append.2 (.inr (List.mem_singleton.2 rfl))))
        have := h2 y hy
        rw [bs_size]; omega
      · have := hpre.length_le
        simp at this
        omega
    obtain ⟨hx1, hx2⟩ := hxs
    have htl := tr_size x
    have cT := fun w => TTrim_any x w (by omega)
    have CT := Lib.hid cT
    have HI := Lib.hid hI
    have HP := Lib.hid hpre
    clear cT hI hpre
    have hmx : Tryd.prog.follows .mixedOrders = true := by kernel_rfl
    by_cases hem : trimL x.data.toList = []
    · have e1 : (tr x).toList.isEmpty = true := by rw [Lib.toList_data, tr_list, hem]; rfl
      have hbad : badE x.data.toList = false := by simp [badE, hem]
      have hpk : pickE x.data.toList = none := by simp [pickE, hem]
      gi_wp2_with (refine ⟨trivial, ?_⟩; gi_at_call 31; refine (CallsIn.inRound l (callsIn_wide.2 (CT.out _))).mono ?_; rintro e W1 ⟨rfl, hb1⟩)
      exact ⟨keepsFrom_below hb1, splitKp_below hb1, LI_below HI.out hb1 (fun h => okB_snoc h hbad) (by rw [pickB_snoc, hpk]; simp)⟩
    · have e1 : (tr x).toList.isEmpty = false := by rw [Lib.toList_data, tr_list]; simpa using hem
      have cI := fun w => TIs_any (tr x) w (by omega)
      rw [tr_list] at cI
      rcases Bool.eq_false_or_eq_true (isTok (trimL x.data.toList)) with ht | ht
      · have hbad : badE x.data.toList = false := by simp [badE, ht]
        have hpk : pickE x.data.toList = some (lowL (trimL x.data.toList)) := by simp [pickE, hem]
        have HB := Lib.hid (And.intro hbad hpk)
        rw [ht] at cI
        have CI := Lib.hid cI
        clear cI ht hem hbad hpk
        gi_wp2_with (first
          | (refine ⟨trivial, ?_⟩; gi_at_call 31; refine (CallsIn.inRound l (callsIn_wide.2 (CT.out _))).mono ?_; rintro e W1 ⟨rfl, hb1⟩)
          | (refine ⟨trivial, ?_⟩; gi_at_call 28; refine (CallsIn.inRound l (callsIn_wide.2 (CI.out _))).mono ?_; rintro e W2 ⟨rfl, hb2⟩))
        have hb12 := hb1.trans (hb2.mono hb1.size)
        have hI2 := LI_below HI.out hb12 (fun h => h) rfl
        obtain ⟨⟨hok, p0, p1, pz⟩, ⟨v, p4, p5, _⟩, hB⟩ := hI2
        have c4 := p4.cell
        have f4 := p4.frozen
        have fin : ∀ W3, Below W2.heap.size W2 W3 → W3.cell? ⟨H, 0, none⟩ = some v ∧ ∃ g cap w5, (Builtin.append_ #[24, 24] 24 #[v, .slice (some ⟨W3.heap.size, 0, none⟩) 1 1]).run Tryd.prog (W3.alloc (.cells #[.string (low (tr x))] 9)) = .ok (.slice (some ⟨g, 0, none⟩) ((pickB pre).length + 1) cap) w5 ∧
            w5.cell? ⟨H, 0, none⟩ = some v ∧ w5.frozen? ⟨H, 0, none⟩ = false ∧ Hid (KeepsFrom w4.heap.size W3 (w5.setCell ⟨H, 0, none⟩ (.slice (some ⟨g, 0, none⟩) ((pickB pre).length + 1) cap)) ∧ splitKp (H + 1) W3 (w5.setCell ⟨H, 0, none⟩ (.slice (some ⟨g, 0, none⟩) ((pickB pre).length + 1) cap)) ∧ LI w H (pre ++ [x]) (w5.setCell ⟨H, 0, none⟩ (.slice (some ⟨g, 0, none⟩) ((pickB pre).length + 1) cap))) := by
          intro W3 hb3
          obtain ⟨i0, hi, hz0, hz1, hz2⟩ := info_parts infoStr
          have kb : ∀ {k : Nat} {t : TypeId} {u : Value}, Boxed W2 k t u → Boxed W3 k t u := fun hk => (hb3.block _ hk.lt).trans hk
          have o3 : W3.ownsRow (H + 4) 9 1 v (pickB pre).length (strs (pickB pre)) := p5.kept (only_of_below hb3 none) (by
            rcases p5.2 with ⟨rfl, _⟩ | ⟨g, cap, cur, rfl, _⟩
            · exact .inl rfl
            · exact .inr (by simp [Value.ownBlock]))
          have hz : H + 4 ≤ W3.heap.size := Nat.le_trans pz hb3.size
          have hpl := pickB_len pre
          obtain ⟨v', w5, hrun, hown, hg, hlt, hor⟩ := app_one (P := Tryd.prog) 24 24 9 i0 (.string .empty) 1 16 Tryd.underlying24 hi hz0 hz1 hz2 rfl (by decide) (H + 4) W3 v _ _ o3 #[.string (low (tr x))] rfl (by intro u hu; simp at hu; subst hu; rfl) 9 (by unfold maxLen; omega) (by omega) hz
          obtain ⟨g, cap, rfl⟩ := ownsRow_succ hown
          obtain ⟨r1, r2, r3, r4⟩ := LI_add (y := lowL (trimL x.data.toList)) hHw hok (kb p0) (kb p1) hz (kb p4) o3 (hB.trans (hb3.mono hB.size)) HB.out.1 HB.out.2 hown hg
          exact ⟨(kb p4).cell, g, cap, w5, hrun, r1.cell, r1.frozen, hide ⟨by rw [hs4]; exact r2, r3, r4⟩⟩
        have cL := fun w => TLower_any (tr x) w (by omega)
        have CL := Lib.hid cL
        have FIN := Lib.hid fin
        have HB12 := Lib.hid hb12
        have hHW : H < W2.heap.size := by omega
        clear cL fin p0 p1 p4 p5 hok hB pz hb1 hb2 hb12 HI
        refine wpIn_region_any hmx ?_
        change wpAnyIn _ _ _ _ _ _ _ _ _ (World.drew _)
        refine wpAnyIn_ready (rs := [0, 1]) (by kernel_rfl) (by simp) ?_
        refine AllReadyIn.cons rfl (fun K hK => ?_) (AllReadyIn.cons rfl (fun K hK => ?_) AllReadyIn.nil)
        · go_simp
          refine hK _ _ ?_
          clear hK K
          refine wpAnyIn_ready (rs := [1]) (by kernel_rfl) (by simp) ?_
          refine AllReadyIn.cons rfl (fun K hK => ?_) AllReadyIn.nil
          go_simp
          refine hK _ _ ?_
          clear hK K
          refine wpAnyIn_ready (rs := [2]) (by kernel_rfl) (by simp) ?_
          refine AllReadyIn.cons rfl (fun K hK => ?_) AllReadyIn.nil
          go_simp
          refine ⟨trivial, ?_⟩
          refine (CallsIn.inRound l (callsIn_wide.2 (CL.out _))).mono ?_
          rintro e W3 ⟨rfl, hb3⟩
          have hb3' : Below W2.heap.size W2 W3 := ((Below.refl _ W2).drew).trans hb3
          obtain ⟨d4, g, cap, w5, hrun, e4, ef, HQ⟩ := FIN.out W3 hb3'
          refine hK _ _ ?_
          clear hK K
          refine wpAnyIn_ready (rs := [3]) (by kernel_rfl) (by simp) ?_
          refine AllReadyIn.cons rfl (fun K hK => ?_) AllReadyIn.nil
          go_simp
          refine hK _ _ ?_
          clear hK K
          refine wpAnyIn_ready (rs := [4]) (by kernel_rfl) (by simp) ?_
          refine AllReadyIn.cons rfl (fun K hK => ?_) AllReadyIn.nil
          refine stepIn_append_run hrun rfl _ _ rfl rfl rfl rfl ?_
          refine hK _ _ ?_
          clear hK K
          refine wpAnyIn_ready (rs := [5]) (by kernel_rfl) (by simp) ?_
          refine AllReadyIn.cons rfl (fun K hK => ?_) AllReadyIn.nil
          go_simp
          refine hK _ _ ?_
          clear hK K
          refine wpAnyIn_done (by kernel_rfl) ?_ _
          exact ⟨(keepsFrom_below HB12.out).trans ((keepsFrom_below hb3').trans HQ.out.1), splitKp_trans (splitKp_below HB12.out) (splitKp_trans (splitKp_below hb3') HQ.out.2.1), HQ.out.2.2⟩
        · go_simp
          refine hK _ _ ?_
          clear hK K
          refine wpAnyIn_ready (rs := [0, 2]) (by kernel_rfl) (by simp) ?_
          refine AllReadyIn.cons rfl (fun K hK => ?_) (AllReadyIn.cons rfl (fun K hK => ?_) AllReadyIn.nil)
          · go_simp
            refine hK _ _ ?_
            clear hK K
            refine wpAnyIn_ready (rs := [2]) (by kernel_rfl) (by simp) ?_
            refine AllReadyIn.cons rfl (fun K hK => ?_) AllReadyIn.nil
            go_simp
            refine ⟨trivial, ?_⟩
            refine (CallsIn.inRound l (callsIn_wide.2 (CL.out _))).mono ?_
            rintro e W3 ⟨rfl, hb3⟩
            have hb3' : Below W2.heap.size W2 W3 := ((Below.refl _ W2).drew).trans hb3
            obtain ⟨d4, g, cap, w5, hrun, e4, ef, HQ⟩ := FIN.out W3 hb3'
            refine hK _ _ ?_
            clear hK K
            refine wpAnyIn_ready (rs := [3]) (by kernel_rfl) (by simp) ?_
            refine AllReadyIn.cons rfl (fun K hK => ?_) AllReadyIn.nil
            go_simp
            refine hK _ _ ?_
            clear hK K
            refine wpAnyIn_ready (rs := [4]) (by kernel_rfl) (by simp) ?_
            refine AllReadyIn.cons rfl (fun K hK => ?_) AllReadyIn.nil
            refine stepIn_append_run hrun rfl _ _ rfl rfl rfl rfl ?_
            refine hK _ _ ?_
            clear hK K
            refine wpAnyIn_ready (rs := [5]) (by kernel_rfl) (by simp) ?_
            refine AllReadyIn.cons rfl (fun K hK => ?_) AllReadyIn.nil
            go_simp
            refine hK _ _ ?_
            clear hK K
            refine wpAnyIn_done (by kernel_rfl) ?_ _
            exact ⟨(keepsFrom_below HB12.out).trans ((keepsFrom_below hb3').trans HQ.out.1), splitKp_trans (splitKp_below HB12.out) (splitKp_trans (splitKp_below hb3') HQ.out.2.1), HQ.out.2.2⟩
          · go_simp
            refine ⟨trivial, ?_⟩
            refine (CallsIn.inRound l (callsIn_wide.2 (CL.out _))).mono ?_
            rintro e W3 ⟨rfl, hb3⟩
            have hb3' : Below W2.heap.size W2 W3 := ((Below.refl _ W2).drew).trans hb3
            obtain ⟨d4, g, cap, w5, hrun, e4, ef, HQ⟩ := FIN.out W3 hb3'
            refine hK _ _ ?_
            clear hK K
            refine wpAnyIn_ready (rs := [0, 3]) (by kernel_rfl) (by simp) ?_
            refine AllReadyIn.cons rfl (fun K hK => ?_) (AllReadyIn.cons rfl (fun K hK => ?_) AllReadyIn.nil)
            · go_simp
              refine hK _ _ ?_
              clear hK K
              refine wpAnyIn_ready (rs := [3]) (by kernel_rfl) (by simp) ?_
              refine AllReadyIn.cons rfl (fun K hK => ?_) AllReadyIn.nil
              go_simp
              refine hK _ _ ?_
              clear hK K
              refine wpAnyIn_ready (rs := [4]) (by kernel_rfl) (by simp) ?_
              refine AllReadyIn.cons rfl (fun K hK => ?_) AllReadyIn.nil
              refine stepIn_append_run hrun rfl _ _ rfl rfl rfl rfl ?_
              refine hK _ _ ?_
              clear hK K
              refine wpAnyIn_ready (rs := [5]) (by kernel_rfl) (by simp) ?_
              refine AllReadyIn.cons rfl (fun K hK => ?_) AllReadyIn.nil
              go_simp
              refine hK _ _ ?_
              clear hK K
              refine wpAnyIn_done (by kernel_rfl) ?_ _
              exact ⟨(keepsFrom_below HB12.out).trans ((keepsFrom_below hb3').trans HQ.out.1), splitKp_trans (splitKp_below HB12.out) (splitKp_trans (splitKp_below hb3') HQ.out.2.1), HQ.out.2.2⟩
            · have d4a : (W3.alloc (.cells #[.string (low (tr x))] 9)).cell? ⟨H, 0, none⟩ = some v := (World.cell?_alloc_lt W3 _ _ (by have := hb3'.size; simp only; omega)).trans d4
              go_simp
              refine hK _ _ ?_
              clear hK K
              refine wpAnyIn_ready (rs := [0]) (by kernel_rfl) (by simp) ?_
              refine AllReadyIn.cons rfl (fun K hK => ?_) AllReadyIn.nil
              go_simp
              refine hK _ _ ?_
              clear hK K
              refine wpAnyIn_ready (rs := [4]) (by kernel_rfl) (by simp) ?_
              refine AllReadyIn.cons rfl (fun K hK => ?_) AllReadyIn.nil
              refine stepIn_append_run hrun rfl _ _ rfl rfl rfl rfl ?_
              refine hK _ _ ?_
              clear hK K
              refine wpAnyIn_ready (rs := [5]) (by kernel_rfl) (by simp) ?_
              refine AllReadyIn.cons rfl (fun K hK => ?_) AllReadyIn.nil
              go_simp
              refine hK _ _ ?_
              clear hK K
              refine wpAnyIn_done (by kernel_rfl) ?_ _
              exact ⟨(keepsFrom_below HB12.out).trans ((keepsFrom_below hb3').trans HQ.out.1), splitKp_trans (splitKp_below HB12.out) (splitKp_trans (splitKp_below hb3') HQ.out.2.1), HQ.out.2.2⟩
      · have hbad : badE x.data.toList = true := by simp [badE, hem, ht]
        have HB := Lib.hid hbad
        rw [ht] at cI
        have CI := Lib.hid cI
        clear cI ht hem hbad
        gi_wp2_with (first
          | (refine ⟨trivial, ?_⟩; gi_at_call 31; refine (CallsIn.inRound l (callsIn_wide.2 (CT.out _))).mono ?_; rintro e W1 ⟨rfl, hb1⟩)
          | (refine ⟨trivial, ?_⟩; gi_at_call 28; refine (CallsIn.inRound l (callsIn_wide.2 (CI.out _))).mono ?_; rintro e W2 ⟨rfl, hb2⟩
             obtain ⟨⟨hok, p0, p1, _⟩, _, hB⟩ := HI.out
             have m0 : Boxed W2 w.heap.size 24 (.slice none 0 0) := (hb2.block _ (Nat.lt_of_lt_of_le p0.lt hb1.size)).trans ((hb1.block _ p0.lt).trans p0)
             have m1 : Boxed W2 (w.heap.size + 1) 26 (.int .i64 0) := (hb2.block _ (Nat.lt_of_lt_of_le p1.lt hb1.size)).trans ((hb1.block _ p1.lt).trans p1)
             have c0 := m0.cell
             have f0 := m0.frozen
             have c1 := m1.cell
             have f1 := m1.frozen))
        refine ⟨(((keepsFrom_below hb1).trans (keepsFrom_below hb2)).trans (keepsFrom_set _ _ _ _)).trans (keepsFrom_set _ _ _ _), ⟨rfl, ?_, (m0.set _).kept (grownBy_setCell' _ _ _) (by simp), (m1.kept (grownBy_setCell' _ _ _) (by simp)).set _⟩, ?_⟩
        · intro h
          have := h x (by simp)
          rw [HB.out] at this
          cases this
        · exact (((hB.trans (hb1.mono hB.size)).trans (hb2.mono (Nat.le_trans hB.size hb1.size))).setCell (by simp) _).setCell (by simp) _
  case done =>
    rintro D xs W hD rfl ⟨⟨hok, p0, p1, pz⟩, ⟨v, p4, p5, _⟩, hB⟩ hK
    obtain ⟨A, cap, rfl⟩ := own_slice p5
    have c4 := p4.cell
    have c0 := p0.cell
    have f0 := p0.frozen
    have c1 := p1.cell
    have f1 := p1.frozen
    have hT : listT s.data.toList = (pickB ((splitC 44 s.data.toList).map bs), 0) := by
      have hn : (splitC 44 s.data.toList).any badE = false := by
        rw [List.any_eq_false]
        intro y hy
        rw [show y = (bs y).data.toList from rfl, hok (bs y) (List.mem_map.2 ⟨y, hy, rfl⟩)]
        simp
      have he : pickB ((splitC 44 s.data.toList).map bs) = (splitC 44 s.data.toList).filterMap pickE := by
        unfold pickB
        rw [List.map_map, show ((fun x : ByteArray => x.data.toList) ∘ bs) = id from rfl, List.map_id]
      unfold listT
      rw [size_l, if_neg (by omega), HH.out, if_neg (by simp), hn, if_neg (by simp), he]
    have HT := Lib.hid hT
    clear hT
    gi_wp2
    rw [Exit.noGoto_ret]
    obtain ⟨V, hV⟩ : ∃ V, Value.slice A (pickB ((splitC 44 s.data.toList).map bs)).length cap = V := ⟨_, rfl⟩
    rw [hV] at p4 p5 ⊢
    have hr0 := p0.not_row (show (24 : TypeId) ≠ 9 by decide) p5
    have hr1 := p1.not_row (show (26 : TypeId) ≠ 9 by decide) p5
    have hK' := ((KeepsOthers.setCell W ⟨w.heap.size, 0, none⟩ V).trans (KeepsOthers.setCell _ ⟨w.heap.size + 1, 0, none⟩ (.int .i64 0))).same D _ hK rfl
    refine ⟨by simp, .inl ⟨_, _, rfl, run_takeDeferred hK', ?_⟩⟩
    have q0 := (((p0.set V).kept (grownBy_setCell' _ (w.heap.size + 1) (.int .i64 0)) (by simp)).kept (grownBy_putObj' _ D (.deferred none)) (by simp; omega)).cell
    have q1 := (((p1.kept (grownBy_setCell' W w.heap.size V) (by simp)).set (.int .i64 0)).kept (grownBy_putObj' _ D (.deferred none)) (by simp; omega)).cell
    have o6 := ownsRow_putObj ((p5.kept (grownBy_setCell' W w.heap.size V) (.inr hr0.symm)).kept (grownBy_setCell' _ (w.heap.size + 1) (.int .i64 0)) (.inr hr1.symm)) (.deferred none) hK' rfl
    refine ⟨.tuple #[V, .int .i64 0], by simp [results, Tryd.f23, go_sem, q0, q1], ?_⟩
    rw [HT.out]
    subst hV
    refine ⟨A, cap, rfl, Reads.of_own o6, ?_⟩
    exact ((hB.setCell (p := ⟨w.heap.size, 0, none⟩) (by simp) _).setCell (p := ⟨w.heap.size + 1, 0, none⟩) (by simp) _).trans (belowK_b (w := w) (Nat.le_refl _) _ D _ _ (by omega) hK' rfl rfl)
  case stop =>
    rintro D c pre W hD hpre ⟨⟨rfl, hbad, p0, p1⟩, hB⟩ hK
    have hT : listT s.data.toList = ([], 3) := by
      have hn : (splitC 44 s.data.toList).any badE = true := by
        refine Classical.byContradiction fun hc => hbad fun y hy => ?_
        obtain ⟨z, hz, rfl⟩ := List.mem_map.1 (hpre.subset hy)
        rw [bs_list]
        have hc' : (splitC 44 s.data.toList).any badE = false := by simpa using hc
        rw [List.any_eq_false] at hc'
        simpa using hc' z hz
      unfold listT
      rw [size_l, if_neg (by omega), HH.out, if_neg (by simp), hn, if_pos rfl]
    have HT := Lib.hid hT
    clear hT
    gi_wp2
    rw [Exit.noGoto_ret]
    refine ⟨by simp, .inl ⟨_, _, rfl, run_takeDeferred hK, ?_⟩⟩
    have q0 := (p0.kept (grownBy_putObj' _ D (.deferred none)) (by simp; omega)).cell
    have q1 := (p1.kept (grownBy_putObj' _ D (.deferred none)) (by simp; omega)).cell
    refine ⟨.tuple #[.slice none 0 0, .int .i64 3], by simp [results, Tryd.f23, go_sem, q0, q1], ?_⟩
    rw [HT.out]
    exact ⟨none, 0, rfl, Reads.none_, hB.trans (belowK_b (w := w) (Nat.le_refl _) W D _ _ (by omega) hK rfl rfl)⟩

theorem TList_any (s : ByteArray) (w : World) (hs : s.size ≤ 1000000) : Calls Tryd.prog 23 #[.string s] w (ListPost (listT s.data.toList) w) := by
  by_cases h : 1024 < s.size
  · exact TList_long s w hs h
  · rcases Bool.eq_false_or_eq_true (isVal s.data.toList) with hv | hv
    · exact TList_main s w (by omega) hv
    · exact TList_form s w (by omega) hv
end Go.Proofs.YtepemdmjbfoiaaaDoor
