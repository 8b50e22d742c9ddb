/-
  A field added: of the program (Add) and of the reference.
-/
import Derived.Test.YtpdohlnobbimaaaDoorFd9
import Derived.Deep.RegionLawGrows
import Derived.Deep.RegionWith
import Derived.Deep.RegionLaw
import Derived.Lib.SliceRun
namespace Go.Proofs.YtpdohlnobbimaaaDoor
open Go.RowKit

/-- the error of a list and a field that is added, or put -/
def moreE (l : List Fld) (x : Fld) : Nat := if (checkL l).1 ≠ 0 then (checkL l).1 else oneL x
def addE (l : List Fld) (x : Fld) : Nat := if moreE l x ≠ 0 then moreE l x else if l.length = 32 then 5 else 0
def addL (l : List Fld) (x : Fld) : List Fld := if addE l x = 0 then l ++ [x] else []
theorem askL_nil (l : List Fld) : askL l [] = (checkL l).1 := by
  unfold askL; split
  · rfl
  · rename_i h; simp at h; simp [h]

/-- a list in new memory, and the row is the call's own -/
def OwnPost (xs : List Fld) (w : World) (e : Ending) (w' : World) : Prop := ∃ v, e = .returned v ∧ w'.ownsRow w.heap.size 36 2 v xs.length (fldsC xs) ∧ Below w.heap.size w w'
theorem own_run (A : Option Addr) (n c : Nat) (xs : List Fld) (w : World) (hr : Reads w w.heap.size 2 A n (fldsC xs)) (hn : n ≤ 1000000) :
    ∃ v' w', (Builtin.append_ #[24, 24] 24 #[.slice (some ⟨w.heap.size, 0, none⟩) 0 0, .slice A n c]).run Tryd.prog (w.alloc (.cells #[] 36)) = .ok v' w' ∧ w'.ownsRow w.heap.size 36 2 v' xs.length (fldsC xs) ∧ Below w.heap.size w w' := by
  obtain rfl := hr.flen
  obtain ⟨i0, hi, hz0, hz1, hz2⟩ := info_parts infoFldA
  have hown := World.ownsRow_made (base := w.heap.size) (e := 36) (size := 2) w #[] 0 (Nat.le_refl _) (Nat.zero_le _) rfl
  have hr2 := hr.alloc (Nat.le_refl _) (.cells #[] 36)
  have hb1 : (0 + xs.length) ≤ maxLen := by unfold maxLen; omega
  have hb2 : (0 + xs.length) * 32 ≤ 140737488355328 := by omega
  obtain ⟨v', w', hrun, ho, hg, hor⟩ := run_append_any (P := Tryd.prog) (w.alloc (.cells #[] 36)) w.heap.size 24 24 36 i0 (.agg #[.string .empty, .string .empty]) 2 32 Tryd.underlying24 hi hz0 hz1 hz2 rfl (by decide) _ 0 [] hown w.heap.size A xs.length c (fldsC xs) hr2 (fldsC_one xs) hb1 hb2 (by simp)
  rw [List.nil_append, Nat.zero_add] at ho
  exact ⟨v', w', hrun, ho, ((Below.refl _ w).alloc (Nat.le_refl _) _).grown hg (by simp) (own_ge hown)⟩
set_option maxRecDepth 100000 in
theorem Clone06 (A : Option Addr) (n c : Nat) (xs : List Fld) (w : World) (hr : Reads w w.heap.size 2 A n (fldsC xs)) (hn : n ≤ 1000000) :
    Calls Tryd.prog 75 #[.slice A n c] w (OwnPost xs w) := by
  obtain ⟨v', w', hrun, ho, hb⟩ := own_run A n c xs w hr hn
  have HRUN := Lib.hid hrun
  have hA : A = none → n = 0 := fun h => by
    rcases Nat.eq_zero_or_pos n with h0 | h0
    · exact h0
    · obtain ⟨_, e, _⟩ := hr.2 h0
      rw [h] at e; cases e
  obtain rfl := hr.flen
  clear hrun hr
  have hq : ∀ (w : World) (a : Option Addr) (n c n' c' : Nat), (binOp .eql 24 (.slice a n c) (.slice none n' c')).run Tryd.prog w = .ok (.bool a.isNone) w := fun w a n c n' c' => Lib.run_eql_slice_nil w _ _ a n c n' c' Tryd.underlying24
  cases A with
  | none =>
    obtain rfl := List.eq_nil_of_length_eq_zero (hA rfl)
    go_enter Tryd.func75, Tryd.ntmps75
    go_wp2_with fail
    go_ret
    exact ⟨_, rfl, World.ownsRow_nil _ _ _ _, Below.refl _ _⟩
  | some a =>
    go_enter Tryd.func75, Tryd.ntmps75
    go_wp2_with (at_builtin; refine wpList_append_run HRUN.out rfl _ _ rfl rfl rfl rfl ?_)
    go_ret
    exact ⟨v', rfl, ho, hb⟩
set_option maxRecDepth 100000 in
theorem Clip06 (A : Option Addr) (n d : Nat) (w : World) (hd : n ≤ d) (_hn : d ≤ 9223372036854775807) (_hA : A = none → n = 0 ∧ d = 0) :
    Calls Tryd.prog 74 #[.slice A n d] w fun e w' => e = .returned (.slice A n n) ∧ w = w' := by
  have i1 : (n : Int) ≤ (d : Int) := by omega
  have i0 : (0 : Int) ≤ (n : Int) := by omega
  go_enter Tryd.func74, Tryd.ntmps74
  go_wp2_with fail
  go_ret
  exact ⟨rfl, rfl⟩
set_option maxRecDepth 100000 in
/-- an append whose run is known, as a step of a region that draws its order -/
theorem step_append_run {P : Program} {w w' : World} {ops : Array Oper} {o : Oper} {a : Act} {K : Act → World → Prop} {Q : Exit → Act → World → Prop} {E : Prop} {t : TypeId} {v y v' : Value}
    (hrun : (Builtin.append_ #[t, t] t #[v, y]).run P w = .ok v' w') (hgd : o.guard = none) (s x : Operand)
    (ho : o.op = .call { callee := .builtin .append, args := #[s, x], argTypes := #[t, t] }) (hty : o.type = t) (hs : a.eval s = v) (hx : a.eval x = y)
    (h : K (a.put o.dst v') w') : if Region.wanted o (yielded ops a.tmps) = true then Oper.wp P o a w K Q else E := by
  have hw : Region.wanted o (yielded ops a.tmps) = true := by simp [Region.wanted, hgd]
  rw [if_pos hw]
  unfold Oper.wp
  simp only [execOp, ho, resolve, invoke, builtin, Sem.run_bind, Sem.run_pure, Result.andThen_ok, List.map_toArray, List.map_cons, List.map_nil, hs, hx, hty, hrun]
  exact h
theorem own_mono {base base' e size n : Nat} {W : World} {v : Value} {xs : List Value} (h : W.ownsRow base e size v n xs) (hb : base' ≤ base) : W.ownsRow base' e size v n xs :=
  ⟨h.1, h.2.imp id fun ⟨g, cap, cur, e1, hg, r⟩ => ⟨g, cap, cur, e1, Nat.le_trans hb hg, r⟩⟩
set_option maxRecDepth 100000 in
theorem app_at {base b : Nat} {W : World} {v : Value} {xs : List Fld} (ho : W.ownsRow base 36 2 v xs.length (fldsC xs)) (hb : base ≤ W.heap.size) (hl : xs.length ≤ 1000000) (y : Fld) (hr : Reads W W.heap.size 2 (some ⟨b, 0, none⟩) 1 (fldsC [y])) :
    ∃ v' w5, (Builtin.append_ #[24, 24] 24 #[v, .slice (some ⟨b, 0, none⟩) 1 1]).run Tryd.prog W = .ok v' w5 ∧ w5.ownsRow base 36 2 v' (xs ++ [y]).length (fldsC (xs ++ [y])) ∧ Below base W w5 := by
  obtain ⟨i0, hi, hz0, hz1, hz2⟩ := info_parts infoFldA
  obtain ⟨v', w', hrun, hown, hg, _⟩ := run_append_any (P := Tryd.prog) W base 24 24 36 i0 (.agg #[.string .empty, .string .empty]) 2 32 Tryd.underlying24 hi hz0 hz1 hz2 rfl (by decide) v xs.length (fldsC xs) ho W.heap.size (some ⟨b, 0, none⟩) 1 1 (fldsC [y]) hr (fldsC_one [y]) (by unfold maxLen; omega) (by omega) hb
  refine ⟨v', w', hrun, ?_, (Below.refl base W).grown hg hb (own_ge ho)⟩
  rw [fldsC_app, List.length_append]; exact hown
set_option maxRecDepth 100000 in
theorem app_clip {b : Nat} {W : World} {A : Option Addr} {xs : List Fld} (ho : Reads W W.heap.size 2 A xs.length (fldsC xs)) (hA : A = none → xs.length = 0) (hl : xs.length ≤ 1000000) (y : Fld) (hr : Reads W W.heap.size 2 (some ⟨b, 0, none⟩) 1 (fldsC [y])) :
    ∃ v' w5, (Builtin.append_ #[24, 24] 24 #[.slice A xs.length xs.length, .slice (some ⟨b, 0, none⟩) 1 1]).run Tryd.prog W = .ok v' w5 ∧ w5.ownsRow W.heap.size 36 2 v' (xs ++ [y]).length (fldsC (xs ++ [y])) ∧ Below W.heap.size W w5 := by
  cases A with
  | none =>
    have h0 := hA rfl
    obtain rfl := List.eq_nil_of_length_eq_zero h0
    exact app_at (xs := []) (World.ownsRow_nil _ _ _ _) (Nat.le_refl _) (by omega) y hr
  | some a =>
    obtain ⟨i0, hi, hz0, hz1, hz2⟩ := info_parts infoFldA
    have hc : ∀ j u, (fldsC xs)[j]? = some u → W.cell? (a.add j) = some u := by
      intro j u hu
      have hp : 0 < xs.length := by
        rcases Nat.eq_zero_or_pos xs.length with h0 | h0
        · obtain rfl := List.eq_nil_of_length_eq_zero h0
          simp [fldsC] at hu
        · exact h0
      obtain ⟨_, e, _, h⟩ := ho.2 hp
      injection e with e
      subst e
      exact h j u hu
    have hc2 : ∀ j u, (fldsC [y])[j]? = some u → W.cell? (Addr.add ⟨b, 0, none⟩ j) = some u := by
      intro j u hu
      obtain ⟨_, e, _, h⟩ := hr.2 (by omega)
      injection e with e
      subst e
      exact h j u hu
    obtain ⟨v', w', hrun, hown, hg⟩ := run_append_arg_grows (P := Tryd.prog) W 24 24 36 i0 (.agg #[.string .empty, .string .empty]) 2 32 Tryd.underlying24 hi hz0 hz1 hz2 rfl (by decide) a xs.length xs.length (fldsC xs) (fldsC_len xs) hc ⟨b, 0, none⟩ 1 1 (fldsC [y]) (by rw [fldsC_len]; rfl) hc2 (by omega) (by unfold maxLen; omega) (by omega)
    refine ⟨v', w', hrun, ?_, (Below.refl _ W).grown hg (Nat.le_refl _) (by simp)⟩
    rw [fldsC_app, List.length_append]; exact hown
theorem addE_more {l : List Fld} {x : Fld} (h : moreE l x ≠ 0) : addE l x = moreE l x := if_pos h
theorem addE_full {l : List Fld} {x : Fld} (h : moreE l x = 0) (h2 : l.length = 32) : addE l x = 5 := by unfold addE; rw [if_neg (by simp [h]), if_pos h2]
theorem addE_ok {l : List Fld} {x : Fld} (h : moreE l x = 0) (h2 : l.length ≠ 32) : addE l x = 0 := by unfold addE; rw [if_neg (by simp [h]), if_neg h2]

set_option maxRecDepth 100000 in
set_option maxHeartbeats 16000000 in
theorem pAdd (A : Option Addr) (n c : Nat) (l : List Fld) (x : Fld) (w : World) (hr : Reads w w.heap.size 2 A n (fldsC l)) (hn : n ≤ 100000) (hl : fldsOk l) (hx1 : x.1.length ≤ 100000) (hx2 : x.2.length ≤ 100000) :
    Calls Tryd.prog 50 #[.slice A n c, .agg #[.string (bs x.1), .string (bs x.2)]] w (FldsPost (addL l x) (addE l x) w) := by
  obtain rfl := hr.flen
  have cO := fun w => pone x w hx1 hx2
  unfold fldV at cO
  obtain ⟨O, hO⟩ : ∃ O, oneL x = O := ⟨_, rfl⟩
  rw [hO] at cO
  have C1 := Lib.hid cO
  have CO := Lib.hid (fun w hr => Clone06 A l.length c l w hr (by omega))
  obtain ⟨W1, hW1⟩ : ∃ W1, w.alloc (.cells #[.string (bs x.1), .string (bs x.2)] 36) = W1 := ⟨_, rfl⟩
  have hB1 : Blk W1 w.heap.size 36 #[.string (bs x.1), .string (bs x.2)] := by rw [← hW1]; exact Blk.new _ _ _
  have hb1 : Below w.heap.size w W1 := by rw [← hW1]; exact (Below.refl _ _).alloc (Nat.le_refl _) _
  have cA := pask A none l.length c 0 0 l [] W1 ((hr.below hb1).more hb1.size) Reads.none_ hn (by omega) hl (by simp)
  obtain ⟨E, hE⟩ : ∃ E, askL l [] = E := ⟨_, rfl⟩
  rw [hE] at cA
  rw [askL_nil] at hE
  have hM : moreE l x = if E ≠ 0 then E else O := by unfold moreE; rw [hE, hO]
  have HR := Lib.hid hr
  have HB := Lib.hid hB1
  clear cO hO hE hr hB1
  unfold FldsPost
  by_cases he : E = 0
  · subst he
    rw [if_pos rfl] at cA
    rw [if_neg (by simp)] at hM
    have CA := Lib.hid cA
    have e1 : (((0 : Nat) : Int) != 0) = false := rfl
    clear cA
    by_cases ho : O = 0
    · subst ho
      by_cases h32 : l.length = 32
      · have hE := addE_full hM h32
        have hL : addL l x = [] := by unfold addL; rw [hE]; rfl
        rw [hE, hL]
        have e3 : ((l.length : Int) == 32) = true := by rw [beq_iff_eq, h32]; rfl
        clear hE hL hM h32
        go_enter Tryd.func50, Tryd.ntmps50
        go_wp2_with fail
        (with_reducible refine (CA.out).mono ?_); rintro e w2 ⟨rfl, g2⟩
        have h2 := hb1.trans (g2.mono hb1.size)
        have HB2 := HB.out.below g2 HB.out.lt
        have hb3 := (Below.refl w2.heap.size w2).alloc (Nat.le_refl _) (.cells #[.slice A l.length c, .slice none 0 0] 81)
        have h3 := h2.alloc h2.size (.cells #[.slice A l.length c, .slice none 0 0] 81)
        have d0 : (w2.alloc (.cells #[.slice A l.length c, .slice none 0 0] 81)).cell? ⟨w.heap.size, 0, none⟩ = some (.string (bs x.1)) := (HB2.alloc _).cell 0
        have d1 : (w2.alloc (.cells #[.slice A l.length c, .slice none 0 0] 81)).cell? ⟨w.heap.size, 1, none⟩ = some (.string (bs x.2)) := (HB2.alloc _).cell 1
        clear HB2
        go_wp2_with fail
        (with_reducible refine (C1.out _).mono ?_); rintro e w4 ⟨rfl, g4⟩
        go_wp2_with fail
        go_ret2
        exact ⟨none, 0, rfl, Nat.zero_le _, Reads.none_, h3.trans (g4.mono h3.size)⟩
      · have hE := addE_ok hM h32
        have hL : addL l x = l ++ [x] := by unfold addL; rw [hE]; rfl
        rw [hE, hL]
        have e3 : ((l.length : Int) == 32) = false := beq_eq_false_iff_ne.2 (by omega)
        clear h32 hE hL hM
        go_enter Tryd.func50, Tryd.ntmps50
        go_wp2_with fail
        (with_reducible refine (CA.out).mono ?_); rintro e w3 ⟨rfl, g2⟩
        have h2 := hb1.trans (g2.mono hb1.size)
        have HB3 := HB.out.below g2 HB.out.lt
        have h3 := h2.alloc h2.size (.cells #[.slice A l.length c, .slice none 0 0] 81)
        have HB4 := Lib.hid (HB3.alloc (.cells #[.slice A l.length c, .slice none 0 0] 81))
        have d0 := HB4.out.cell 0
        have d1 := HB4.out.cell 1
        have d0 : (w3.alloc (.cells #[.slice A l.length c, .slice none 0 0] 81)).cell? ⟨w.heap.size, 0, none⟩ = some (.string (bs x.1)) := d0
        have d1 : (w3.alloc (.cells #[.slice A l.length c, .slice none 0 0] 81)).cell? ⟨w.heap.size, 1, none⟩ = some (.string (bs x.2)) := d1
        clear HB3 g2
        go_wp2_with fail
        (with_reducible refine (C1.out _).mono ?_); rintro e w2 ⟨rfl, g4⟩
        have h4 := h3.trans (g4.mono h3.size)
        have HB2 := Lib.hid (HB4.out.below g4 HB4.out.lt)
        clear g4 d0 d1 h3 h2 HB4
        go_wp2_with fail
        refine wp_region_any (by kernel_rfl) ?_
        change wpAny _ _ _ _ _ _ _ (World.drew _)
        have kb0 : Below w2.drew.heap.size w2.drew w2.drew := Below.refl _ _
        have RD : Hid (∀ W, Below w2.drew.heap.size w2.drew W → Reads W W.heap.size 2 A l.length (fldsC l)) := fun W hW => (HR.out.below (h4.drew.trans (hW.mono h4.size))).more (h4.drew.trans (hW.mono h4.size)).size
        have CELL0 : Hid (∀ W, Below w2.drew.heap.size w2.drew W → W.cell? ⟨w.heap.size, 0, none⟩ = some (.string (bs x.1))) := fun W hW => (HB2.out.drew.below hW HB2.out.lt).cell 0
        have CELL1 : Hid (∀ W, Below w2.drew.heap.size w2.drew W → W.cell? ⟨w.heap.size, 1, none⟩ = some (.string (bs x.2))) := fun W hW => (HB2.out.drew.below hW HB2.out.lt).cell 1
        have c0a := CELL0.out _ kb0
        have c0b := CELL1.out _ kb0
        have OWNS : Hid (∀ W v, W.ownsRow w2.drew.heap.size 36 2 v l.length (fldsC l) → ∃ A' d, v = .slice A' l.length d ∧ l.length ≤ d ∧ (d ≤ 9223372036854775807 ∧ (A' = none → l.length = 0 ∧ d = 0) ∧ (A' = none → l.length = 0)) ∧ Reads W W.heap.size 2 A' l.length (fldsC l)) := by
          intro W v ho
          obtain ⟨A', d, rfl⟩ := own_slice ho
          refine ⟨A', d, rfl, own_capA ho, ⟨?_, ?_, ?_⟩, Reads.of_own ho⟩
          · rcases ho.2 with ⟨e1, _⟩ | ⟨g, cap, cur, e1, _, _, _, h5, _⟩
            · injection e1 with _ _ e2; omega
            · injection e1 with _ _ e2; unfold maxLen at h5; omega
          · intro hn
            rcases ho.2 with ⟨e1, e2⟩ | ⟨g, cap, cur, e1, _⟩
            · injection e1 with _ e3 e4; omega
            · injection e1 with e2 _ _; rw [hn] at e2; cases e2
          · intro hn
            rcases ho.2 with ⟨e1, e2⟩ | ⟨g, cap, cur, e1, _⟩
            · exact e2
            · injection e1 with e2 _ _; rw [hn] at e2; cases e2
        have FIN : Hid (∀ W A' b, Below w2.drew.heap.size w2.drew W → Reads W W.heap.size 2 A' l.length (fldsC l) → (A' = none → l.length = 0) → Reads W W.heap.size 2 (some ⟨b, 0, none⟩) 1 (fldsC [x]) → ∃ A'' cap w5, (Builtin.append_ #[24, 24] 24 #[.slice A' l.length l.length, .slice (some ⟨b, 0, none⟩) 1 1]).run Tryd.prog W = .ok (.slice A'' (l ++ [x]).length cap) w5 ∧ (l ++ [x]).length ≤ cap ∧ Reads w5 w5.heap.size 2 A'' (l ++ [x]).length (fldsC (l ++ [x])) ∧ Below w.heap.size w w5) := by
          intro W A' b hW ho hA hr
          obtain ⟨v', w5, hrun, hown, hb5⟩ := app_clip ho hA (by omega) x hr
          obtain ⟨A'', cap, rfl⟩ := own_slice hown
          exact ⟨A'', cap, w5, hrun, own_capA hown, Reads.of_own hown, (h4.drew.trans (hW.mono h4.size)).trans (hb5.mono (h4.drew.trans (hW.mono h4.size)).size)⟩
        clear h4
        refine wpAny_ready (rs := [0, 3]) (by kernel_rfl) (by simp) ?_
        refine AllReady.cons rfl (fun K hK => ?_) (AllReady.cons rfl (fun K hK => ?_) AllReady.nil)
        · go_simp
          refine hK _ _ ?_
          clear hK K
          refine wpAny_ready (rs := [1, 3]) (by kernel_rfl) (by simp) ?_
          refine AllReady.cons rfl (fun K hK => ?_) (AllReady.cons rfl (fun K hK => ?_) AllReady.nil)
          · go_simp
            refine (CO.out _ (RD.out _ kb0)).mono ?_
            rintro e V1 ⟨v1, rfl, ho1, hb1⟩
            have kb1 := kb0.trans (hb1.mono kb0.size)
            have ho1 := own_mono ho1 kb0.size
            obtain ⟨A1, d1, rfl, hd1, hA1, hR1⟩ := OWNS.out _ _ ho1
            have c1a := CELL0.out _ kb1
            have c1b := CELL1.out _ kb1
            refine hK _ _ ?_
            clear hK K
            refine wpAny_ready (rs := [2, 3]) (by kernel_rfl) (by simp) ?_
            refine AllReady.cons rfl (fun K hK => ?_) (AllReady.cons rfl (fun K hK => ?_) AllReady.nil)
            · go_simp
              refine (Clip06 A1 _ d1 _ hd1 hA1.1 hA1.2.1).mono ?_
              rintro e V2 ⟨rfl, rfl⟩
              refine hK _ _ ?_
              clear hK K
              refine wpAny_ready (rs := [3]) (by kernel_rfl) (by simp) ?_
              refine AllReady.cons rfl (fun K hK => ?_) AllReady.nil
              go_simp
              refine hK _ _ ?_
              clear hK K
              refine wpAny_ready (rs := [4]) (by kernel_rfl) (by simp) ?_
              refine AllReady.cons rfl (fun K hK => ?_) AllReady.nil
              go_simp
              refine hK _ _ ?_
              clear hK K
              have lt3 := reads_newF V1 36 [x] #[.string (bs x.1), .string (bs x.2)] rfl
              have kb3 := kb1.alloc kb1.size (.cells #[.string (bs x.1), .string (bs x.2)] 36)
              have hR3 := (hR1.alloc (Nat.le_refl _) (.cells #[.string (bs x.1), .string (bs x.2)] 36)).more (show V1.heap.size ≤ (V1.alloc (.cells #[.string (bs x.1), .string (bs x.2)] 36)).heap.size by simp)
              refine wpAny_ready (rs := [5]) (by kernel_rfl) (by simp) ?_
              refine AllReady.cons rfl (fun K hK => ?_) AllReady.nil
              obtain ⟨z4, y4, Z4, hrun4, hf4⟩ := FIN.out _ _ _ kb3 hR3 hA1.2.2 lt3
              refine step_append_run hrun4 rfl _ _ rfl rfl rfl rfl ?_
              refine hK _ _ ?_
              clear hK K
              refine wpAny_ready (rs := [6]) (by kernel_rfl) (by simp) ?_
              refine AllReady.cons rfl (fun K hK => ?_) AllReady.nil
              go_simp
              refine hK _ _ ?_
              clear hK K
              refine wpAny_ready (rs := [7]) (by kernel_rfl) (by simp) ?_
              refine AllReady.cons rfl (fun K hK => ?_) AllReady.nil
              go_simp
              refine hK _ _ ?_
              clear hK K
              refine wpAny_done (by kernel_rfl) ?_ _
              go_wp2_with fail
              go_ret2
              exact ⟨_, _, by simp, hf4⟩
            · go_simp
              refine hK _ _ ?_
              clear hK K
              refine wpAny_ready (rs := [2, 4]) (by kernel_rfl) (by simp) ?_
              refine AllReady.cons rfl (fun K hK => ?_) (AllReady.cons rfl (fun K hK => ?_) AllReady.nil)
              · go_simp
                refine (Clip06 A1 _ d1 _ hd1 hA1.1 hA1.2.1).mono ?_
                rintro e V5 ⟨rfl, rfl⟩
                refine hK _ _ ?_
                clear hK K
                refine wpAny_ready (rs := [4]) (by kernel_rfl) (by simp) ?_
                refine AllReady.cons rfl (fun K hK => ?_) AllReady.nil
                go_simp
                refine hK _ _ ?_
                clear hK K
                have lt6 := reads_newF V1 36 [x] #[.string (bs x.1), .string (bs x.2)] rfl
                have kb6 := kb1.alloc kb1.size (.cells #[.string (bs x.1), .string (bs x.2)] 36)
                have hR6 := (hR1.alloc (Nat.le_refl _) (.cells #[.string (bs x.1), .string (bs x.2)] 36)).more (show V1.heap.size ≤ (V1.alloc (.cells #[.string (bs x.1), .string (bs x.2)] 36)).heap.size by simp)
                refine wpAny_ready (rs := [5]) (by kernel_rfl) (by simp) ?_
                refine AllReady.cons rfl (fun K hK => ?_) AllReady.nil
                obtain ⟨z7, y7, Z7, hrun7, hf7⟩ := FIN.out _ _ _ kb6 hR6 hA1.2.2 lt6
                refine step_append_run hrun7 rfl _ _ rfl rfl rfl rfl ?_
                refine hK _ _ ?_
                clear hK K
                refine wpAny_ready (rs := [6]) (by kernel_rfl) (by simp) ?_
                refine AllReady.cons rfl (fun K hK => ?_) AllReady.nil
                go_simp
                refine hK _ _ ?_
                clear hK K
                refine wpAny_ready (rs := [7]) (by kernel_rfl) (by simp) ?_
                refine AllReady.cons rfl (fun K hK => ?_) AllReady.nil
                go_simp
                refine hK _ _ ?_
                clear hK K
                refine wpAny_done (by kernel_rfl) ?_ _
                go_wp2_with fail
                go_ret2
                exact ⟨_, _, by simp, hf7⟩
              · go_simp
                refine hK _ _ ?_
                clear hK K
                have lt8 := reads_newF V1 36 [x] #[.string (bs x.1), .string (bs x.2)] rfl
                have kb8 := kb1.alloc kb1.size (.cells #[.string (bs x.1), .string (bs x.2)] 36)
                have hR8 := (hR1.alloc (Nat.le_refl _) (.cells #[.string (bs x.1), .string (bs x.2)] 36)).more (show V1.heap.size ≤ (V1.alloc (.cells #[.string (bs x.1), .string (bs x.2)] 36)).heap.size by simp)
                refine wpAny_ready (rs := [2]) (by kernel_rfl) (by simp) ?_
                refine AllReady.cons rfl (fun K hK => ?_) AllReady.nil
                go_simp
                refine (Clip06 A1 _ d1 _ hd1 hA1.1 hA1.2.1).mono ?_
                rintro e V9 ⟨rfl, rfl⟩
                refine hK _ _ ?_
                clear hK K
                refine wpAny_ready (rs := [5]) (by kernel_rfl) (by simp) ?_
                refine AllReady.cons rfl (fun K hK => ?_) AllReady.nil
                obtain ⟨z10, y10, Z10, hrun10, hf10⟩ := FIN.out _ _ _ kb8 hR8 hA1.2.2 lt8
                refine step_append_run hrun10 rfl _ _ rfl rfl rfl rfl ?_
                refine hK _ _ ?_
                clear hK K
                refine wpAny_ready (rs := [6]) (by kernel_rfl) (by simp) ?_
                refine AllReady.cons rfl (fun K hK => ?_) AllReady.nil
                go_simp
                refine hK _ _ ?_
                clear hK K
                refine wpAny_ready (rs := [7]) (by kernel_rfl) (by simp) ?_
                refine AllReady.cons rfl (fun K hK => ?_) AllReady.nil
                go_simp
                refine hK _ _ ?_
                clear hK K
                refine wpAny_done (by kernel_rfl) ?_ _
                go_wp2_with fail
                go_ret2
                exact ⟨_, _, by simp, hf10⟩
          · go_simp
            refine hK _ _ ?_
            clear hK K
            refine wpAny_ready (rs := [1, 4]) (by kernel_rfl) (by simp) ?_
            refine AllReady.cons rfl (fun K hK => ?_) (AllReady.cons rfl (fun K hK => ?_) AllReady.nil)
            · go_simp
              refine (CO.out _ (RD.out _ kb0)).mono ?_
              rintro e V11 ⟨v11, rfl, ho11, hb11⟩
              have kb11 := kb0.trans (hb11.mono kb0.size)
              have ho11 := own_mono ho11 kb0.size
              obtain ⟨A11, d11, rfl, hd11, hA11, hR11⟩ := OWNS.out _ _ ho11
              refine hK _ _ ?_
              clear hK K
              refine wpAny_ready (rs := [2, 4]) (by kernel_rfl) (by simp) ?_
              refine AllReady.cons rfl (fun K hK => ?_) (AllReady.cons rfl (fun K hK => ?_) AllReady.nil)
              · go_simp
                refine (Clip06 A11 _ d11 _ hd11 hA11.1 hA11.2.1).mono ?_
                rintro e V12 ⟨rfl, rfl⟩
                refine hK _ _ ?_
                clear hK K
                refine wpAny_ready (rs := [4]) (by kernel_rfl) (by simp) ?_
                refine AllReady.cons rfl (fun K hK => ?_) AllReady.nil
                go_simp
                refine hK _ _ ?_
                clear hK K
                have lt13 := reads_newF V11 36 [x] #[.string (bs x.1), .string (bs x.2)] rfl
                have kb13 := kb11.alloc kb11.size (.cells #[.string (bs x.1), .string (bs x.2)] 36)
                have hR13 := (hR11.alloc (Nat.le_refl _) (.cells #[.string (bs x.1), .string (bs x.2)] 36)).more (show V11.heap.size ≤ (V11.alloc (.cells #[.string (bs x.1), .string (bs x.2)] 36)).heap.size by simp)
                refine wpAny_ready (rs := [5]) (by kernel_rfl) (by simp) ?_
                refine AllReady.cons rfl (fun K hK => ?_) AllReady.nil
                obtain ⟨z14, y14, Z14, hrun14, hf14⟩ := FIN.out _ _ _ kb13 hR13 hA11.2.2 lt13
                refine step_append_run hrun14 rfl _ _ rfl rfl rfl rfl ?_
                refine hK _ _ ?_
                clear hK K
                refine wpAny_ready (rs := [6]) (by kernel_rfl) (by simp) ?_
                refine AllReady.cons rfl (fun K hK => ?_) AllReady.nil
                go_simp
                refine hK _ _ ?_
                clear hK K
                refine wpAny_ready (rs := [7]) (by kernel_rfl) (by simp) ?_
                refine AllReady.cons rfl (fun K hK => ?_) AllReady.nil
                go_simp
                refine hK _ _ ?_
                clear hK K
                refine wpAny_done (by kernel_rfl) ?_ _
                go_wp2_with fail
                go_ret2
                exact ⟨_, _, by simp, hf14⟩
              · go_simp
                refine hK _ _ ?_
                clear hK K
                have lt15 := reads_newF V11 36 [x] #[.string (bs x.1), .string (bs x.2)] rfl
                have kb15 := kb11.alloc kb11.size (.cells #[.string (bs x.1), .string (bs x.2)] 36)
                have hR15 := (hR11.alloc (Nat.le_refl _) (.cells #[.string (bs x.1), .string (bs x.2)] 36)).more (show V11.heap.size ≤ (V11.alloc (.cells #[.string (bs x.1), .string (bs x.2)] 36)).heap.size by simp)
                refine wpAny_ready (rs := [2]) (by kernel_rfl) (by simp) ?_
                refine AllReady.cons rfl (fun K hK => ?_) AllReady.nil
                go_simp
                refine (Clip06 A11 _ d11 _ hd11 hA11.1 hA11.2.1).mono ?_
                rintro e V16 ⟨rfl, rfl⟩
                refine hK _ _ ?_
                clear hK K
                refine wpAny_ready (rs := [5]) (by kernel_rfl) (by simp) ?_
                refine AllReady.cons rfl (fun K hK => ?_) AllReady.nil
                obtain ⟨z17, y17, Z17, hrun17, hf17⟩ := FIN.out _ _ _ kb15 hR15 hA11.2.2 lt15
                refine step_append_run hrun17 rfl _ _ rfl rfl rfl rfl ?_
                refine hK _ _ ?_
                clear hK K
                refine wpAny_ready (rs := [6]) (by kernel_rfl) (by simp) ?_
                refine AllReady.cons rfl (fun K hK => ?_) AllReady.nil
                go_simp
                refine hK _ _ ?_
                clear hK K
                refine wpAny_ready (rs := [7]) (by kernel_rfl) (by simp) ?_
                refine AllReady.cons rfl (fun K hK => ?_) AllReady.nil
                go_simp
                refine hK _ _ ?_
                clear hK K
                refine wpAny_done (by kernel_rfl) ?_ _
                go_wp2_with fail
                go_ret2
                exact ⟨_, _, by simp, hf17⟩
            · go_simp
              refine hK _ _ ?_
              clear hK K
              have lt18 := reads_newF w2.drew 36 [x] #[.string (bs x.1), .string (bs x.2)] rfl
              have kb18 := kb0.alloc kb0.size (.cells #[.string (bs x.1), .string (bs x.2)] 36)
              refine wpAny_ready (rs := [1]) (by kernel_rfl) (by simp) ?_
              refine AllReady.cons rfl (fun K hK => ?_) AllReady.nil
              go_simp
              refine (CO.out _ (RD.out _ kb18)).mono ?_
              rintro e V19 ⟨v19, rfl, ho19, hb19⟩
              have kb19 := kb18.trans (hb19.mono kb18.size)
              have ho19 := own_mono ho19 kb18.size
              obtain ⟨A19, d19, rfl, hd19, hA19, hR19⟩ := OWNS.out _ _ ho19
              have lt19 := (lt18.below hb19).more hb19.size
              refine hK _ _ ?_
              clear hK K
              refine wpAny_ready (rs := [2]) (by kernel_rfl) (by simp) ?_
              refine AllReady.cons rfl (fun K hK => ?_) AllReady.nil
              go_simp
              refine (Clip06 A19 _ d19 _ hd19 hA19.1 hA19.2.1).mono ?_
              rintro e V20 ⟨rfl, rfl⟩
              refine hK _ _ ?_
              clear hK K
              refine wpAny_ready (rs := [5]) (by kernel_rfl) (by simp) ?_
              refine AllReady.cons rfl (fun K hK => ?_) AllReady.nil
              obtain ⟨z21, y21, Z21, hrun21, hf21⟩ := FIN.out _ _ _ kb19 hR19 hA19.2.2 lt19
              refine step_append_run hrun21 rfl _ _ rfl rfl rfl rfl ?_
              refine hK _ _ ?_
              clear hK K
              refine wpAny_ready (rs := [6]) (by kernel_rfl) (by simp) ?_
              refine AllReady.cons rfl (fun K hK => ?_) AllReady.nil
              go_simp
              refine hK _ _ ?_
              clear hK K
              refine wpAny_ready (rs := [7]) (by kernel_rfl) (by simp) ?_
              refine AllReady.cons rfl (fun K hK => ?_) AllReady.nil
              go_simp
              refine hK _ _ ?_
              clear hK K
              refine wpAny_done (by kernel_rfl) ?_ _
              go_wp2_with fail
              go_ret2
              exact ⟨_, _, by simp, hf21⟩
        · go_simp
          refine hK _ _ ?_
          clear hK K
          refine wpAny_ready (rs := [0, 4]) (by kernel_rfl) (by simp) ?_
          refine AllReady.cons rfl (fun K hK => ?_) (AllReady.cons rfl (fun K hK => ?_) AllReady.nil)
          · go_simp
            refine hK _ _ ?_
            clear hK K
            refine wpAny_ready (rs := [1, 4]) (by kernel_rfl) (by simp) ?_
            refine AllReady.cons rfl (fun K hK => ?_) (AllReady.cons rfl (fun K hK => ?_) AllReady.nil)
            · go_simp
              refine (CO.out _ (RD.out _ kb0)).mono ?_
              rintro e V22 ⟨v22, rfl, ho22, hb22⟩
              have kb22 := kb0.trans (hb22.mono kb0.size)
              have ho22 := own_mono ho22 kb0.size
              obtain ⟨A22, d22, rfl, hd22, hA22, hR22⟩ := OWNS.out _ _ ho22
              refine hK _ _ ?_
              clear hK K
              refine wpAny_ready (rs := [2, 4]) (by kernel_rfl) (by simp) ?_
              refine AllReady.cons rfl (fun K hK => ?_) (AllReady.cons rfl (fun K hK => ?_) AllReady.nil)
              · go_simp
                refine (Clip06 A22 _ d22 _ hd22 hA22.1 hA22.2.1).mono ?_
                rintro e V23 ⟨rfl, rfl⟩
                refine hK _ _ ?_
                clear hK K
                refine wpAny_ready (rs := [4]) (by kernel_rfl) (by simp) ?_
                refine AllReady.cons rfl (fun K hK => ?_) AllReady.nil
                go_simp
                refine hK _ _ ?_
                clear hK K
                have lt24 := reads_newF V22 36 [x] #[.string (bs x.1), .string (bs x.2)] rfl
                have kb24 := kb22.alloc kb22.size (.cells #[.string (bs x.1), .string (bs x.2)] 36)
                have hR24 := (hR22.alloc (Nat.le_refl _) (.cells #[.string (bs x.1), .string (bs x.2)] 36)).more (show V22.heap.size ≤ (V22.alloc (.cells #[.string (bs x.1), .string (bs x.2)] 36)).heap.size by simp)
                refine wpAny_ready (rs := [5]) (by kernel_rfl) (by simp) ?_
                refine AllReady.cons rfl (fun K hK => ?_) AllReady.nil
                obtain ⟨z25, y25, Z25, hrun25, hf25⟩ := FIN.out _ _ _ kb24 hR24 hA22.2.2 lt24
                refine step_append_run hrun25 rfl _ _ rfl rfl rfl rfl ?_
                refine hK _ _ ?_
                clear hK K
                refine wpAny_ready (rs := [6]) (by kernel_rfl) (by simp) ?_
                refine AllReady.cons rfl (fun K hK => ?_) AllReady.nil
                go_simp
                refine hK _ _ ?_
                clear hK K
                refine wpAny_ready (rs := [7]) (by kernel_rfl) (by simp) ?_
                refine AllReady.cons rfl (fun K hK => ?_) AllReady.nil
                go_simp
                refine hK _ _ ?_
                clear hK K
                refine wpAny_done (by kernel_rfl) ?_ _
                go_wp2_with fail
                go_ret2
                exact ⟨_, _, by simp, hf25⟩
              · go_simp
                refine hK _ _ ?_
                clear hK K
                have lt26 := reads_newF V22 36 [x] #[.string (bs x.1), .string (bs x.2)] rfl
                have kb26 := kb22.alloc kb22.size (.cells #[.string (bs x.1), .string (bs x.2)] 36)
                have hR26 := (hR22.alloc (Nat.le_refl _) (.cells #[.string (bs x.1), .string (bs x.2)] 36)).more (show V22.heap.size ≤ (V22.alloc (.cells #[.string (bs x.1), .string (bs x.2)] 36)).heap.size by simp)
                refine wpAny_ready (rs := [2]) (by kernel_rfl) (by simp) ?_
                refine AllReady.cons rfl (fun K hK => ?_) AllReady.nil
                go_simp
                refine (Clip06 A22 _ d22 _ hd22 hA22.1 hA22.2.1).mono ?_
                rintro e V27 ⟨rfl, rfl⟩
                refine hK _ _ ?_
                clear hK K
                refine wpAny_ready (rs := [5]) (by kernel_rfl) (by simp) ?_
                refine AllReady.cons rfl (fun K hK => ?_) AllReady.nil
                obtain ⟨z28, y28, Z28, hrun28, hf28⟩ := FIN.out _ _ _ kb26 hR26 hA22.2.2 lt26
                refine step_append_run hrun28 rfl _ _ rfl rfl rfl rfl ?_
                refine hK _ _ ?_
                clear hK K
                refine wpAny_ready (rs := [6]) (by kernel_rfl) (by simp) ?_
                refine AllReady.cons rfl (fun K hK => ?_) AllReady.nil
                go_simp
                refine hK _ _ ?_
                clear hK K
                refine wpAny_ready (rs := [7]) (by kernel_rfl) (by simp) ?_
                refine AllReady.cons rfl (fun K hK => ?_) AllReady.nil
                go_simp
                refine hK _ _ ?_
                clear hK K
                refine wpAny_done (by kernel_rfl) ?_ _
                go_wp2_with fail
                go_ret2
                exact ⟨_, _, by simp, hf28⟩
            · go_simp
              refine hK _ _ ?_
              clear hK K
              have lt29 := reads_newF w2.drew 36 [x] #[.string (bs x.1), .string (bs x.2)] rfl
              have kb29 := kb0.alloc kb0.size (.cells #[.string (bs x.1), .string (bs x.2)] 36)
              refine wpAny_ready (rs := [1]) (by kernel_rfl) (by simp) ?_
              refine AllReady.cons rfl (fun K hK => ?_) AllReady.nil
              go_simp
              refine (CO.out _ (RD.out _ kb29)).mono ?_
              rintro e V30 ⟨v30, rfl, ho30, hb30⟩
              have kb30 := kb29.trans (hb30.mono kb29.size)
              have ho30 := own_mono ho30 kb29.size
              obtain ⟨A30, d30, rfl, hd30, hA30, hR30⟩ := OWNS.out _ _ ho30
              have lt30 := (lt29.below hb30).more hb30.size
              refine hK _ _ ?_
              clear hK K
              refine wpAny_ready (rs := [2]) (by kernel_rfl) (by simp) ?_
              refine AllReady.cons rfl (fun K hK => ?_) AllReady.nil
              go_simp
              refine (Clip06 A30 _ d30 _ hd30 hA30.1 hA30.2.1).mono ?_
              rintro e V31 ⟨rfl, rfl⟩
              refine hK _ _ ?_
              clear hK K
              refine wpAny_ready (rs := [5]) (by kernel_rfl) (by simp) ?_
              refine AllReady.cons rfl (fun K hK => ?_) AllReady.nil
              obtain ⟨z32, y32, Z32, hrun32, hf32⟩ := FIN.out _ _ _ kb30 hR30 hA30.2.2 lt30
              refine step_append_run hrun32 rfl _ _ rfl rfl rfl rfl ?_
              refine hK _ _ ?_
              clear hK K
              refine wpAny_ready (rs := [6]) (by kernel_rfl) (by simp) ?_
              refine AllReady.cons rfl (fun K hK => ?_) AllReady.nil
              go_simp
              refine hK _ _ ?_
              clear hK K
              refine wpAny_ready (rs := [7]) (by kernel_rfl) (by simp) ?_
              refine AllReady.cons rfl (fun K hK => ?_) AllReady.nil
              go_simp
              refine hK _ _ ?_
              clear hK K
              refine wpAny_done (by kernel_rfl) ?_ _
              go_wp2_with fail
              go_ret2
              exact ⟨_, _, by simp, hf32⟩
          · go_simp
            refine hK _ _ ?_
            clear hK K
            have lt33 := reads_newF w2.drew 36 [x] #[.string (bs x.1), .string (bs x.2)] rfl
            have kb33 := kb0.alloc kb0.size (.cells #[.string (bs x.1), .string (bs x.2)] 36)
            refine wpAny_ready (rs := [0]) (by kernel_rfl) (by simp) ?_
            refine AllReady.cons rfl (fun K hK => ?_) AllReady.nil
            go_simp
            refine hK _ _ ?_
            clear hK K
            refine wpAny_ready (rs := [1]) (by kernel_rfl) (by simp) ?_
            refine AllReady.cons rfl (fun K hK => ?_) AllReady.nil
            go_simp
            refine (CO.out _ (RD.out _ kb33)).mono ?_
            rintro e V34 ⟨v34, rfl, ho34, hb34⟩
            have kb34 := kb33.trans (hb34.mono kb33.size)
            have ho34 := own_mono ho34 kb33.size
            obtain ⟨A34, d34, rfl, hd34, hA34, hR34⟩ := OWNS.out _ _ ho34
            have lt34 := (lt33.below hb34).more hb34.size
            refine hK _ _ ?_
            clear hK K
            refine wpAny_ready (rs := [2]) (by kernel_rfl) (by simp) ?_
            refine AllReady.cons rfl (fun K hK => ?_) AllReady.nil
            go_simp
            refine (Clip06 A34 _ d34 _ hd34 hA34.1 hA34.2.1).mono ?_
            rintro e V35 ⟨rfl, rfl⟩
            refine hK _ _ ?_
            clear hK K
            refine wpAny_ready (rs := [5]) (by kernel_rfl) (by simp) ?_
            refine AllReady.cons rfl (fun K hK => ?_) AllReady.nil
            obtain ⟨z36, y36, Z36, hrun36, hf36⟩ := FIN.out _ _ _ kb34 hR34 hA34.2.2 lt34
            refine step_append_run hrun36 rfl _ _ rfl rfl rfl rfl ?_
            refine hK _ _ ?_
            clear hK K
            refine wpAny_ready (rs := [6]) (by kernel_rfl) (by simp) ?_
            refine AllReady.cons rfl (fun K hK => ?_) AllReady.nil
            go_simp
            refine hK _ _ ?_
            clear hK K
            refine wpAny_ready (rs := [7]) (by kernel_rfl) (by simp) ?_
            refine AllReady.cons rfl (fun K hK => ?_) AllReady.nil
            go_simp
            refine hK _ _ ?_
            clear hK K
            refine wpAny_done (by kernel_rfl) ?_ _
            go_wp2_with fail
            go_ret2
            exact ⟨_, _, by simp, hf36⟩
    · have hE := addE_more (l := l) (x := x) (by rw [hM]; exact ho)
      rw [hM] at hE
      have hL : addL l x = [] := by unfold addL; rw [hE, if_neg ho]
      rw [hE, hL]
      have e2 : ((O : Int) != 0) = true := by rw [bne_iff_ne]; omega
      clear hE hL hM
      go_enter Tryd.func50, Tryd.ntmps50
      go_wp2_with fail
      (with_reducible refine (CA.out).mono ?_); rintro e w2 ⟨rfl, g2⟩
      have h2 := hb1.trans (g2.mono hb1.size)
      have HB2 := HB.out.below g2 HB.out.lt
      have h3 := h2.alloc h2.size (.cells #[.slice A l.length c, .slice none 0 0] 81)
      have d0 : (w2.alloc (.cells #[.slice A l.length c, .slice none 0 0] 81)).cell? ⟨w.heap.size, 0, none⟩ = some (.string (bs x.1)) := (HB2.alloc _).cell 0
      have d1 : (w2.alloc (.cells #[.slice A l.length c, .slice none 0 0] 81)).cell? ⟨w.heap.size, 1, none⟩ = some (.string (bs x.2)) := (HB2.alloc _).cell 1
      clear HB2
      go_wp2_with fail
      (with_reducible refine (C1.out _).mono ?_); rintro e w4 ⟨rfl, g4⟩
      go_wp2_with fail
      go_ret2
      exact ⟨none, 0, rfl, Nat.zero_le _, Reads.none_, h3.trans (g4.mono h3.size)⟩
  · rw [if_neg he] at cA
    rw [if_pos he] at hM
    unfold nilAsk at cA
    have CA := Lib.hid cA
    clear cA
    have hE := addE_more (l := l) (x := x) (by rw [hM]; exact he)
    rw [hM] at hE
    have hL : addL l x = [] := by unfold addL; rw [hE, if_neg he]
    rw [hE, hL]
    have e2 : ((E : Int) != 0) = true := by rw [bne_iff_ne]; omega
    clear hE hL hM
    go_enter Tryd.func50, Tryd.ntmps50
    go_wp2_with fail
    (with_reducible refine (CA.out).mono ?_); rintro e w2 ⟨rfl, g2⟩
    have h2 := hb1.trans (g2.mono hb1.size)
    go_wp2_with fail
    go_ret2
    exact ⟨none, 0, rfl, Nat.zero_le _, Reads.none_, h2.alloc h2.size _⟩
end Go.Proofs.YtpdohlnobbimaaaDoor
