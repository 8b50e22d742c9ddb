/-
  PersistKeeps, the law.
-/
import Derived.Test.YtepemdmjbfoiaaaDoorLPeAnsM
namespace Go.Proofs.YtepemdmjbfoiaaaDoor
open Go.RowKit

/-- what a piece of code leaves where it goes on -/
def onNormalK (R : Act → World → Prop) : Exit → Act → World → Prop
  | .normal, a, w => R a w
  | _, _, _ => False
theorem wp_normalK {P : Program} {c : Code} {Q : Exit → Act → World → Prop} {a : Act} {w : World} {R : Act → World → Prop} (h : c.wp P (onNormalK R) a w) (k : ∀ a' w', R a' w' → Q .normal a' w') : c.wp P Q a w :=
  Code.wp_mono (fun e a' w' h => by cases e <;> first | exact k _ _ h | exact h.elim) h
/-- whether a side said Close since the last answer -/
def askF (es : List Ev) : Bool := es.foldl (fun acc e => if e.1 = 3 then false else acc || (e.1 == 4 || e.2.2)) false
theorem askF_snoc (es : List Ev) (e : Ev) : askF (es ++ [e]) = if e.1 = 3 then false else askF es || (e.1 == 4 || e.2.2) := by simp [askF]
theorem asked_inv (es : List Ev) (h : okT init es) : ((aft init es).1 = 2 → (aft init es).2.1 = askF es) ∧ ((aft init es).1 = 1 → askF es = false) ∧ (aft init es).2.2.1 ≤ es.length := by
  have key : ∀ k, k ≤ es.length → okT init (es.take k) → ((aft init (es.take k)).1 = 2 → (aft init (es.take k)).2.1 = askF (es.take k)) ∧ ((aft init (es.take k)).1 = 1 → askF (es.take k) = false) ∧ (aft init (es.take k)).2.2.1 ≤ k := by
    intro k
    induction k with
    | zero => intro _ _; simp [aft, init, askF]
    | succ k ih =>
      intro hk ho
      have hlt : k < es.length := by omega
      rw [List.take_succ_eq_append_getElem hlt] at ho ⊢
      obtain ⟨o1, o2⟩ := (okT_snoc _ _ _).1 ho
      obtain ⟨i1, i2, i3⟩ := ih (by omega) o1
      rw [aft_snoc, askF_snoc]
      generalize es[k] = e at *
      generalize aft init (es.take k) = l at *
      generalize askF (es.take k) = A at *
      rcases step_cases o2 with ⟨h1, h2, h3⟩ | ⟨h1, h2, h3⟩ | ⟨h1, h2, h3⟩ | ⟨h1, h2, h3⟩ | ⟨h1, h2, h3⟩
      · rw [h3, h1, i2 h2]
        refine ⟨fun _ => by simp, fun h => by simp at h, by simp only; omega⟩
      · rw [h3, h1]
        refine ⟨fun h => by simp at h, fun h => by simp at h, by simp only; omega⟩
      · rw [h3, h1]
        refine ⟨fun h => by simp only at h; split at h <;> omega, fun _ => by simp, by simp only; omega⟩
      · rw [h3, h1]
        refine ⟨fun h => by simp at h, fun h => by simp at h, by simp only; omega⟩
      · rw [h3, h1]
        refine ⟨fun _ => by simp, fun h => by simp at h, by simp only; omega⟩
  have := key es.length (Nat.le_refl _) (by rw [List.take_length]; exact h)
  rwa [List.take_length] at this
theorem mayL_mem (l : Lk) (n k : Nat) (hk : 1 ≤ k) : (mayL l n).contains k = (decide (k ≤ n) && mayF l k) := by
  induction n with
  | zero => simp [mayL]; omega
  | succ n ih =>
    rw [mayL]
    by_cases hn : k = n + 1
    · subst hn
      have h0 : (mayL l n).contains (n + 1) = false := by rw [ih, decide_eq_false (by omega)]; rfl
      cases hm : mayF l (n + 1) with
      | true => simp
      | false => simpa using h0
    · have hd : decide (k ≤ n + 1) = decide (k ≤ n) := by rw [decide_eq_decide]; omega
      rw [hd, ← ih]
      cases hm : mayF l (n + 1) with
      | true =>
        rw [if_pos rfl, List.contains_eq_any_beq, List.any_append, ← List.contains_eq_any_beq]
        simp [hn]
      | false => simp

set_option maxRecDepth 100000 in
set_option maxHeartbeats 32000000 in
theorem PersistKeeps_true (A : Option Addr) (n c : Nat) (zs : List Int) (cl : Bool) (w : World) (hr : Reads w w.heap.size 1 A n (zs.map (Value.int .i64))) (hn : n ≤ 9223372036854775807) (hw : ∀ z ∈ zs, -9223372036854775808 ≤ z ∧ z ≤ 9223372036854775807) :
    Calls Tryd.prog 16 #[.slice A n c, .bool cl] w fun e w' => e = .returned (.bool true) ∧ Below w.heap.size w w' := by
  have CK := Lib.hid PersistKnown_true
  have CM := Lib.hid (fun w hr => made_any A n c zs w hr hn hw)
  have CN := Lib.hid pNew
  have CE := Lib.hid event_any
  have HR := Lib.hid hr
  clear hr hw
  go_enter Tryd.func16, Tryd.ntmps16
  go_wp2_with fail
  (with_reducible refine (CK.out _).mono ?_); rintro e w1 ⟨rfl, g1⟩
  go_wp2_with fail
  (with_reducible refine (CM.out _ ((HR.out.below g1).more g1.size)).mono ?_); rintro e w2 ⟨B, d, es, j, rfl, hcap, hj, h40, hok, rE, g2⟩
  have h2 := g1.trans (g2.mono g1.size)
  have rJ := rE.evtake j hj
  have cR := fun w hr => pRun init B j d (es.take j) w hr (by omega)
  rw [runV_init, runT_all _ _ hok, List.length_take, Nat.min_eq_left hj] at cR
  have hinv := asked_inv _ hok
  have hval := valid_aft _ hok
  rw [List.length_take, Nat.min_eq_left hj] at hinv
  obtain ⟨⟨s, a, m, q⟩, hZ⟩ : ∃ Z, aft init (es.take j) = Z := ⟨_, rfl⟩
  rw [hZ] at cR hinv hval
  simp only at hinv
  unfold lkV linkV init at cR
  simp only at cR
  have i0 : (0 : Int) ≤ (j : Int) := by omega
  have i1 : (j : Int) ≤ (d : Int) := by omega
  have i2 : (j : Int) ≤ (es.length : Int) := by omega
  have RJ : Hid (∀ X, Below w2.heap.size w2 X → Reads X X.heap.size 3 B j (evsC (es.take j))) := hide fun X hX => (rJ.below hX).more hX.size
  have KA15 : Hid (∀ X, Hid (Below w2.heap.size w2 X) → Calls Tryd.prog 77 #[] X fun e w' => e = .returned (.agg #[.int .i64 1, .bool false, .int .i64 0, .int .i64 0]) ∧ Hid (Below w2.heap.size w2 w')) := hide fun X hX => (CN.out X).mono fun e w' ⟨he, hb⟩ => ⟨he, hide (hX.out.trans (hb.mono hX.out.size))⟩
  have KA25 : Hid (∀ X g, Hid (Below w2.heap.size w2 X) → Hid (Blk X g 76 #[.int .i64 0, .bool false, .int .i64 0, .int .i64 0] ∧ w2.heap.size ≤ g) → Calls Tryd.prog 77 #[] X fun e w' => e = .returned (.agg #[.int .i64 1, .bool false, .int .i64 0, .int .i64 0]) ∧ Hid (Below w2.heap.size w2 w') ∧ Hid (Blk w' g 76 #[.int .i64 0, .bool false, .int .i64 0, .int .i64 0] ∧ w2.heap.size ≤ g)) := hide fun X g hX hg => (CN.out X).mono fun e w' ⟨he, hb⟩ => ⟨he, hide (hX.out.trans (hb.mono hX.out.size)), hide ⟨hg.out.1.below hb hg.out.1.lt, hg.out.2⟩⟩
  have KB15 : Hid (∀ X, Hid (Below w2.heap.size w2 X) → Calls Tryd.prog 76 #[.agg #[.int .i64 1, .bool false, .int .i64 0, .int .i64 0], .slice B j d] X fun e w' => e = .returned (.tuple #[.agg #[.int .i64 s, .bool a, .int .i64 m, .int .i64 q], .int .i64 j, .int .i64 0]) ∧ Hid (Below w2.heap.size w2 w')) := hide fun X hX => (cR X (RJ.out X hX.out)).mono fun e w' ⟨he, hb⟩ => ⟨he, hide (hX.out.trans (hb.mono hX.out.size))⟩
  have KB25 : Hid (∀ X g, Hid (Below w2.heap.size w2 X) → Hid (Blk X g 76 #[.int .i64 0, .bool false, .int .i64 0, .int .i64 0] ∧ w2.heap.size ≤ g) → Calls Tryd.prog 76 #[.agg #[.int .i64 1, .bool false, .int .i64 0, .int .i64 0], .slice B j d] X fun e w' => e = .returned (.tuple #[.agg #[.int .i64 s, .bool a, .int .i64 m, .int .i64 q], .int .i64 j, .int .i64 0]) ∧ Hid (Below w2.heap.size w2 w') ∧ Hid (Blk w' g 76 #[.int .i64 0, .bool false, .int .i64 0, .int .i64 0] ∧ w2.heap.size ≤ g) ∧ ((w'.cell? ⟨g, 0, none⟩ = some (.int .i64 0) ∧ w'.cell? ⟨g, 1, none⟩ = some (.bool false) ∧ w'.cell? ⟨g, 2, none⟩ = some (.int .i64 0) ∧ w'.cell? ⟨g, 3, none⟩ = some (.int .i64 0)) ∧ w'.frozen? ⟨g, 0, none⟩ = false ∧ w'.frozen? ⟨g, 1, none⟩ = false ∧ w'.frozen? ⟨g, 2, none⟩ = false ∧ w'.frozen? ⟨g, 3, none⟩ = false)) := hide fun X g hX hg => (cR X (RJ.out X hX.out)).mono fun e w' ⟨he, hb⟩ => ⟨he, hide (hX.out.trans (hb.mono hX.out.size)), hide ⟨hg.out.1.below hb hg.out.1.lt, hg.out.2⟩, zs_of (hg.out.1.below hb hg.out.1.lt)⟩
  have HD05 : Hid (Below w2.heap.size w2 w2.drew) := hide (Below.refl _ _).drew
  have HD15 : Hid (Below w2.heap.size w2 (w2.alloc (.cells #[.int .i64 0, .bool false, .int .i64 0, .int .i64 0] 76)).drew) := hide ((Below.refl _ _).alloc (Nat.le_refl _) _).drew
  have HZ15 : Hid (Blk (w2.alloc (.cells #[.int .i64 0, .bool false, .int .i64 0, .int .i64 0] 76)).drew w2.heap.size 76 #[.int .i64 0, .bool false, .int .i64 0, .int .i64 0] ∧ w2.heap.size ≤ w2.heap.size) := hide ⟨Blk.drew (Blk.new w2 _ _), Nat.le_refl _⟩
  have AL5 : ∀ X o, Hid (Below w2.heap.size w2 X) → Hid (Below w2.heap.size w2 (X.alloc o)) := fun X o h => hide (h.out.alloc h.out.size o)
  have BN5 : ∀ X, Hid (Below w2.heap.size w2 X) → Hid (Blk (X.alloc (.cells #[.int .i64 0, .bool false, .int .i64 0, .int .i64 0] 76)) X.heap.size 76 #[.int .i64 0, .bool false, .int .i64 0, .int .i64 0] ∧ w2.heap.size ≤ X.heap.size) := fun X h => hide ⟨Blk.new X _ _, h.out.size⟩
  have H0 := Lib.hid (And.intro h2 (And.intro rE (And.intro hj (And.intro h40 (And.intro hinv (And.intro hval (And.intro hok hZ)))))))
  clear g1 g2 h2 rE rJ cR hcap hj h40 hok hZ hinv hval
  go_wp2_with fail
  refine wp_normalK (R := fun a' w' => ∃ G9, a' = ({ tmps := #[.slice A n c, .bool cl, undef, undef, .bool false, .bool true, .slice B es.length d, .int .i64 j, .bool true, .pointer (some ⟨G9, 0, none⟩), .int .i64 j, .int .i64 0, undef, undef, undef, undef, undef, undef, undef, undef, undef, undef, undef, undef, undef, undef, .bool true, .tuple #[.slice B es.length d, .int .i64 j, .bool true], .slice A n c, .tuple #[.slice B es.length d, .int .i64 j, .bool true], .slice B es.length d, .int .i64 j, .bool true, .bool true, .bool false, .tuple #[.agg #[.int .i64 s, .bool a, .int .i64 m, .int .i64 q], .int .i64 j, .int .i64 0], .agg #[.int .i64 1, .bool false, .int .i64 0, .int .i64 0], .slice B es.length d, .int .i64 j, .slice B j d, .tuple #[.agg #[.int .i64 s, .bool a, .int .i64 m, .int .i64 q], .int .i64 j, .int .i64 0], .agg #[.int .i64 s, .bool a, .int .i64 m, .int .i64 q], .int .i64 j, .int .i64 0, undef, undef, undef, undef, undef, undef, undef, undef, undef, undef, undef, undef, undef, undef, undef, undef, undef, undef, undef, undef, undef, undef, undef, undef, undef, undef, undef, undef, undef, undef, undef, undef, undef, undef, undef, undef, undef, undef, undef, undef, undef, undef, undef, undef, undef, undef, undef, undef, undef, undef, undef, undef, undef, undef, undef, undef, undef, undef, undef, undef, undef, undef, undef, undef, undef, undef, undef, undef, undef, undef, undef, undef, undef, undef, undef, undef, undef, undef, undef, undef, undef, undef, undef, undef, undef, undef, undef, undef, undef, undef, undef, undef, undef, undef, undef, undef, undef, undef, undef, undef, undef, undef, undef, undef, undef, undef, undef, undef, undef, undef, undef, undef, undef, undef, undef, undef, undef, undef, undef, undef, undef, undef, undef, undef, undef, undef, undef, undef], defers := [] } : Act) ∧ Hid (Below w2.heap.size w2 w' ∧ Blk w' G9 76 #[.int .i64 s, .bool a, .int .i64 m, .int .i64 q])) ?region5 ?post5
  case region5 =>
    go_region_held (fun w' => True) (go_keep)
      (first
        | (go_at_call 77; (with_reducible refine (KA25.out _ _ (by assumption) (by assumption)).mono ?_); rintro r vb ⟨rfl, hvb, hzb⟩)
        | (go_at_call 77; (with_reducible refine (KA15.out _ (by assumption)).mono ?_); rintro r va ⟨rfl, hva⟩)
        | (go_at_call 76; (with_reducible refine (KB25.out _ _ (by first | assumption | exact AL5 _ _ (by assumption)) (by first | assumption | exact BN5 _ (by assumption))).mono ?_); rintro r vc ⟨rfl, hvc, hzc, ⟨⟨z0, z1, z2, z3⟩, u0, u1, u2, u3⟩⟩)
        | (go_at_call 76; (with_reducible refine (KB15.out _ (by assumption)).mono ?_); rintro r vd ⟨rfl, hvd⟩))
    · exact ⟨_, rfl, hide ⟨hvd.out.alloc hvd.out.size _, Blk.new vd _ _⟩⟩
    · exact ⟨_, rfl, hide ⟨(((hvc.out.setCell (p := ⟨va.heap.size, 0, none⟩) hzc.out.2 _).setCell (p := ⟨va.heap.size, 1, none⟩) hzc.out.2 _).setCell (p := ⟨va.heap.size, 2, none⟩) hzc.out.2 _).setCell (p := ⟨va.heap.size, 3, none⟩) hzc.out.2 _, (((hzc.out.1.set_ 0 _).set_ 1 _).set_ 2 _).set_ 3 _⟩⟩
    · exact ⟨_, rfl, hide ⟨(((hvc.out.setCell (p := ⟨w2.heap.size, 0, none⟩) hzc.out.2 _).setCell (p := ⟨w2.heap.size, 1, none⟩) hzc.out.2 _).setCell (p := ⟨w2.heap.size, 2, none⟩) hzc.out.2 _).setCell (p := ⟨w2.heap.size, 3, none⟩) hzc.out.2 _, (((hzc.out.1.set_ 0 _).set_ 1 _).set_ 2 _).set_ 3 _⟩⟩
  case post5 =>
  rintro a' W3 ⟨G9, rfl, HF⟩
  obtain ⟨hX3, kA⟩ := HF.out
  have hb3 := H0.out.1.trans (hX3.mono H0.out.1.size)
  have rE3 := (H0.out.2.1.below hX3).more hX3.size
  obtain ⟨_, _, hj, h40, hinv, hval, hok, hZ⟩ := H0.out
  have hmn := chkL_n hval
  have hM : mayV (s, a, m, q) = (mayL (s, a, m, q) 4, 0) := by unfold mayV; exact if_neg (by rw [hval]; simp)
  have cM := fun w => pMay (s, a, m, q) w
  unfold MayPost at cM
  rw [hM] at cM
  have CMy := Lib.hid cM
  have hml := mayL_len (s, a, m, q) 4
  have hcon := fun k hk => mayL_mem (s, a, m, q) 4 k hk
  obtain ⟨M, hMd⟩ : ∃ M, mayL (s, a, m, q) 4 = M := ⟨_, rfl⟩
  rw [hMd] at hml hcon
  rw [hMd] at CMy
  have y0 : W3.cell? ⟨G9, 0, none⟩ = some (.int .i64 s) := kA.cell 0
  have y1 : W3.cell? ⟨G9, 1, none⟩ = some (.bool a) := kA.cell 1
  have y2 : W3.cell? ⟨G9, 2, none⟩ = some (.int .i64 m) := kA.cell 2
  have y3 : W3.cell? ⟨G9, 3, none⟩ = some (.int .i64 q) := kA.cell 3
  have H3 := Lib.hid (And.intro hb3 (And.intro rE3 kA))
  have HC := Lib.hid hcon
  have HV := Lib.hid (And.intro hinv (And.intro hval (And.intro hmn (And.intro hok hZ))))
  clear KA15 KA25 KB15 KB25 HD05 HD15 HZ15 AL5 BN5 RJ hX3 hb3 rE3 kA cM hM hMd hcon hinv hval hmn hok hZ H0 HF
  go_wp2_with fail
  (with_reducible refine (CMy.out _).mono ?_); rintro e w4 ⟨A3, cc3, rfl, _, rM, g4⟩
  clear y0 y1 y2 y3
  have kA := H3.out.2.2.below g4 H3.out.2.2.lt
  have hb4 := H3.out.1.trans (g4.mono H3.out.1.size)
  have rE4 := (H3.out.2.1.below g4).more g4.size
  obtain ⟨GC, hGC⟩ : ∃ GC, w4.heap.size = GC := ⟨_, rfl⟩
  have kC := blk_at (t := 3) (cs := #[.int .i64 0, .int .i64 400, .int .i64 200, .int .i64 0]) w4 hGC
  have kA := kA.alloc (.cells #[.int .i64 0, .int .i64 400, .int .i64 200, .int .i64 0] 3)
  have hb4 := hb4.alloc hb4.size (.cells #[.int .i64 0, .int .i64 400, .int .i64 200, .int .i64 0] 3)
  have gA := (Below.refl w4.heap.size w4).alloc (Nat.le_refl _) (.cells #[.int .i64 0, .int .i64 400, .int .i64 200, .int .i64 0] 3)
  have rE4 := (rE4.below gA).more gA.size
  have rM := (rM.below gA).more gA.size
  have H4 := Lib.hid (And.intro kA (And.intro kC (And.intro rM (And.intro rE4 hb4))))
  clear kA kC rM rE4 hb4 gA g4 H3
  go_wp2_with fail
  clear hGC
  go_loopw [15] (fun kk wr => ∃ (jj : Nat) (iv : Int), kk = .int .i64 iv ∧ iv = (jj : Int) + 1 ∧ jj ≤ 4 ∧ Hid (Blk wr G9 76 #[.int .i64 s, .bool a, .int .i64 m, .int .i64 q] ∧ Blk wr GC 3 #[.int .i64 0, .int .i64 400, .int .i64 200, .int .i64 0] ∧ Reads wr wr.heap.size 1 A3 M.length (ints M) ∧ Reads wr wr.heap.size 3 B es.length (evsC es) ∧ Below w.heap.size w wr)) (fun kk _ => 5 - (intOf kk).toNat)
  case atStart => exact ⟨0, 1, rfl, rfl, by omega, H4⟩
  case round =>
    obtain ⟨jj, iv, rfl, hiv, hjj, HO⟩ := hrel
    rename World => W0
    obtain rfl | rfl | rfl | rfl | rfl : jj = 0 ∨ jj = 1 ∨ jj = 2 ∨ jj = 3 ∨ jj = 4 := by omega
    · obtain rfl : iv = 1 := by omega
      clear hiv hjj
      obtain ⟨kA, kC, rM, rE, hb⟩ := HO.out
      have cS := fun w => pStep s a m q 1 0 false w
      obtain ⟨E, hE⟩ : ∃ E, stepE s a m q 1 0 false = E := ⟨_, rfl⟩
      obtain ⟨N, hN⟩ : ∃ N, stepL s a m q 1 0 false = N := ⟨_, rfl⟩
      rw [hE, hN] at cS
      obtain ⟨s2, a2, m2, q2⟩ := N
      unfold lkV linkV evV at cS
      simp only at cS
      have hF : mayF (s, a, m, q) 1 = (E == 0) := by rw [← hE]; exact congrArg (· == 0) (show stE (s, a, m, q) _ = stE (s, a, m, q) (1, 0, false) by first | rfl | exact fit23 _)
      have hcon := HC.out 1 (by omega)
      have hFE : ((E : Int) == 0) = M.contains 1 := by
        rw [hcon, hF]
        cases E with
        | zero => rfl
        | succ x => rw [beqF (by omega)]; rfl
      have HFE := Lib.hid hFE
      have SS13 : Hid (∀ w', Below W0.heap.size W0 w' → (w'.cell? ⟨G9, 0, none⟩ = some (.int .i64 s) ∧ w'.cell? ⟨G9, 1, none⟩ = some (.bool a) ∧ w'.cell? ⟨G9, 2, none⟩ = some (.int .i64 m) ∧ w'.cell? ⟨G9, 3, none⟩ = some (.int .i64 q)) ∧ w'.cell? ⟨GC, 0, none⟩ = some (.int .i64 0)) := hide fun w' hw => by
        have h1 := kA.below hw kA.lt
        have h2 := kC.below hw kC.lt
        exact ⟨⟨h1.cell 0, h1.cell 1, h1.cell 2, h1.cell 3⟩, h2.cell 0⟩
      have KA113 : Hid (∀ X, Hid (Below W0.heap.size W0 X) → Calls Tryd.prog 80 #[.int .i64 1, .int .i64 0, .bool false] X fun e w' => e = .returned (.agg #[.int .i64 1, .int .i64 0, .bool false]) ∧ Hid (Below W0.heap.size W0 w') ∧ ((w'.cell? ⟨G9, 0, none⟩ = some (.int .i64 s) ∧ w'.cell? ⟨G9, 1, none⟩ = some (.bool a) ∧ w'.cell? ⟨G9, 2, none⟩ = some (.int .i64 m) ∧ w'.cell? ⟨G9, 3, none⟩ = some (.int .i64 q)) ∧ w'.cell? ⟨GC, 0, none⟩ = some (.int .i64 0))) := hide fun X hX => (CE.out 1 0 false X).mono fun e w' ⟨he, hb⟩ => ⟨he, hide (hX.out.trans (hb.mono hX.out.size)), SS13.out _ (hX.out.trans (hb.mono hX.out.size))⟩
      have KA213 : Hid (∀ X g, Hid (Below W0.heap.size W0 X) → Hid (Blk X g 76 #[.int .i64 0, .bool false, .int .i64 0, .int .i64 0] ∧ W0.heap.size ≤ g) → Calls Tryd.prog 80 #[.int .i64 1, .int .i64 0, .bool false] X fun e w' => e = .returned (.agg #[.int .i64 1, .int .i64 0, .bool false]) ∧ Hid (Below W0.heap.size W0 w') ∧ Hid (Blk w' g 76 #[.int .i64 0, .bool false, .int .i64 0, .int .i64 0] ∧ W0.heap.size ≤ g) ∧ ((w'.cell? ⟨G9, 0, none⟩ = some (.int .i64 s) ∧ w'.cell? ⟨G9, 1, none⟩ = some (.bool a) ∧ w'.cell? ⟨G9, 2, none⟩ = some (.int .i64 m) ∧ w'.cell? ⟨G9, 3, none⟩ = some (.int .i64 q)) ∧ w'.cell? ⟨GC, 0, none⟩ = some (.int .i64 0))) := hide fun X g hX hg => (CE.out 1 0 false X).mono fun e w' ⟨he, hb⟩ => ⟨he, hide (hX.out.trans (hb.mono hX.out.size)), hide ⟨hg.out.1.below hb hg.out.1.lt, hg.out.2⟩, SS13.out _ (hX.out.trans (hb.mono hX.out.size))⟩
      have KB113 : Hid (∀ X, Hid (Below W0.heap.size W0 X) → Calls Tryd.prog 79 #[.agg #[.int .i64 s, .bool a, .int .i64 m, .int .i64 q], .agg #[.int .i64 1, .int .i64 0, .bool false]] X fun e w' => e = .returned (.tuple #[.agg #[.int .i64 s2, .bool a2, .int .i64 m2, .int .i64 q2], .int .i64 E]) ∧ Hid (Below W0.heap.size W0 w') ∧ ((w'.cell? ⟨G9, 0, none⟩ = some (.int .i64 s) ∧ w'.cell? ⟨G9, 1, none⟩ = some (.bool a) ∧ w'.cell? ⟨G9, 2, none⟩ = some (.int .i64 m) ∧ w'.cell? ⟨G9, 3, none⟩ = some (.int .i64 q)) ∧ w'.cell? ⟨GC, 0, none⟩ = some (.int .i64 0))) := hide fun X hX => (cS X).mono fun e w' ⟨he, hb⟩ => ⟨he, hide (hX.out.trans (hb.mono hX.out.size)), SS13.out _ (hX.out.trans (hb.mono hX.out.size))⟩
      have KB213 : Hid (∀ X g, Hid (Below W0.heap.size W0 X) → Hid (Blk X g 76 #[.int .i64 0, .bool false, .int .i64 0, .int .i64 0] ∧ W0.heap.size ≤ g) → Calls Tryd.prog 79 #[.agg #[.int .i64 s, .bool a, .int .i64 m, .int .i64 q], .agg #[.int .i64 1, .int .i64 0, .bool false]] X fun e w' => e = .returned (.tuple #[.agg #[.int .i64 s2, .bool a2, .int .i64 m2, .int .i64 q2], .int .i64 E]) ∧ Hid (Below W0.heap.size W0 w') ∧ Hid (Blk w' g 76 #[.int .i64 0, .bool false, .int .i64 0, .int .i64 0] ∧ W0.heap.size ≤ g) ∧ ((w'.cell? ⟨g, 0, none⟩ = some (.int .i64 0) ∧ w'.cell? ⟨g, 1, none⟩ = some (.bool false) ∧ w'.cell? ⟨g, 2, none⟩ = some (.int .i64 0) ∧ w'.cell? ⟨g, 3, none⟩ = some (.int .i64 0)) ∧ w'.frozen? ⟨g, 0, none⟩ = false ∧ w'.frozen? ⟨g, 1, none⟩ = false ∧ w'.frozen? ⟨g, 2, none⟩ = false ∧ w'.frozen? ⟨g, 3, none⟩ = false) ∧ ((w'.cell? ⟨G9, 0, none⟩ = some (.int .i64 s) ∧ w'.cell? ⟨G9, 1, none⟩ = some (.bool a) ∧ w'.cell? ⟨G9, 2, none⟩ = some (.int .i64 m) ∧ w'.cell? ⟨G9, 3, none⟩ = some (.int .i64 q)) ∧ w'.cell? ⟨GC, 0, none⟩ = some (.int .i64 0))) := hide fun X g hX hg => (cS X).mono fun e w' ⟨he, hb⟩ => ⟨he, hide (hX.out.trans (hb.mono hX.out.size)), hide ⟨hg.out.1.below hb hg.out.1.lt, hg.out.2⟩, zs_of (hg.out.1.below hb hg.out.1.lt), SS13.out _ (hX.out.trans (hb.mono hX.out.size))⟩
      have HD013 : Hid (Below W0.heap.size W0 W0.drew) := hide (Below.refl _ _).drew
      have HD113 : Hid (Below W0.heap.size W0 (W0.alloc (.cells #[.int .i64 0, .bool false, .int .i64 0, .int .i64 0] 76)).drew) := hide ((Below.refl _ _).alloc (Nat.le_refl _) _).drew
      have HZ113 : Hid (Blk (W0.alloc (.cells #[.int .i64 0, .bool false, .int .i64 0, .int .i64 0] 76)).drew W0.heap.size 76 #[.int .i64 0, .bool false, .int .i64 0, .int .i64 0] ∧ W0.heap.size ≤ W0.heap.size) := hide ⟨Blk.drew (Blk.new W0 _ _), Nat.le_refl _⟩
      have AL13 : ∀ X o, Hid (Below W0.heap.size W0 X) → Hid (Below W0.heap.size W0 (X.alloc o)) := fun X o h => hide (h.out.alloc h.out.size o)
      have BN13 : ∀ X, Hid (Below W0.heap.size W0 X) → Hid (Blk (X.alloc (.cells #[.int .i64 0, .bool false, .int .i64 0, .int .i64 0] 76)) X.heap.size 76 #[.int .i64 0, .bool false, .int .i64 0, .int .i64 0] ∧ W0.heap.size ≤ X.heap.size) := fun X h => hide ⟨Blk.new X _ _, h.out.size⟩
      obtain ⟨⟨c0, c1, c2, c3⟩, x0⟩ := SS13.out W0 (Below.refl _ _)
      have n1 : G9 ≠ W0.heap.size := Nat.ne_of_lt kA.lt
      have n2 : GC ≠ W0.heap.size := Nat.ne_of_lt kC.lt
      have n3 : W0.heap.size ≠ G9 := n1.symm
      have n4 : W0.heap.size ≠ GC := n2.symm
      have nA : ∀ X, Hid (Below W0.heap.size W0 X) → G9 ≠ X.heap.size := fun X h => Nat.ne_of_lt (Nat.lt_of_lt_of_le kA.lt h.out.size)
      have nC : ∀ X, Hid (Below W0.heap.size W0 X) → GC ≠ X.heap.size := fun X h => Nat.ne_of_lt (Nat.lt_of_lt_of_le kC.lt h.out.size)
      clear kA kC rM rE hb hE hN cS hF hcon hFE
      go_wp2_with fail
      refine wp_normalK (R := fun a' w' => ∃ G, a' = ({ tmps := #[.slice A n c, .bool cl, undef, undef, u4, .bool true, .slice B es.length d, .int .i64 j, .bool true, .pointer (some ⟨G9, 0, none⟩), .int .i64 j, .int .i64 0, .slice A3 M.length cc3, .int .i64 0, .slice (some ⟨GC, 0, none⟩) 4 4, .int .i64 1, .pointer (some ⟨G, 0, none⟩), .int .i64 E, u18, u19, undef, undef, undef, undef, undef, undef, .bool true, .tuple #[.slice B es.length d, .int .i64 j, .bool true], .slice A n c, .tuple #[.slice B es.length d, .int .i64 j, .bool true], .slice B es.length d, .int .i64 j, .bool true, .bool true, .bool false, .tuple #[.agg #[.int .i64 s, .bool a, .int .i64 m, .int .i64 q], .int .i64 j, .int .i64 0], .agg #[.int .i64 1, .bool false, .int .i64 0, .int .i64 0], .slice B es.length d, .int .i64 j, .slice B j d, .tuple #[.agg #[.int .i64 s, .bool a, .int .i64 m, .int .i64 q], .int .i64 j, .int .i64 0], .agg #[.int .i64 s, .bool a, .int .i64 m, .int .i64 q], .int .i64 j, .int .i64 0, .tuple #[.slice A3 M.length cc3, .int .i64 0], .agg #[.int .i64 s, .bool a, .int .i64 m, .int .i64 q], .tuple #[.slice A3 M.length cc3, .int .i64 0], .slice A3 M.length cc3, .int .i64 0, .int .i64 0, .bool false, .bool false, .int .i64 0, .bool false, .bool false, .slice (some ⟨GC, 0, none⟩) 4 4, .int .i64 1, .bool true, u58, u59, .tuple #[.agg #[.int .i64 s2, .bool a2, .int .i64 m2, .int .i64 q2], .int .i64 E], .agg #[.int .i64 s, .bool a, .int .i64 m, .int .i64 q], .int .i64 1, .slice (some ⟨GC, 0, none⟩) 4 4, .int .i64 1, .int .i64 0, .pointer (some ⟨GC, 0, none⟩), .int .i64 0, .agg #[.int .i64 1, .int .i64 0, .bool false], .tuple #[.agg #[.int .i64 s2, .bool a2, .int .i64 m2, .int .i64 q2], .int .i64 E], .agg #[.int .i64 s2, .bool a2, .int .i64 m2, .int .i64 q2], .int .i64 E, u72, u73, u74, u75, u76, u77, u78, u79, u80, u81, u82, u83, u84, u85, u86, u87, u88, u89, u90, undef, undef, undef, undef, undef, undef, undef, undef, undef, undef, undef, undef, undef, undef, undef, undef, undef, undef, undef, undef, undef, undef, undef, undef, undef, undef, undef, undef, undef, undef, undef, undef, undef, undef, undef, undef, undef, undef, undef, undef, undef, undef, undef, undef, undef, undef, undef, undef, undef, undef, undef, undef, undef, undef, undef, undef, undef, undef, undef, undef, undef, undef, undef, undef, undef, undef, undef, undef, undef, undef, undef, undef, undef, undef, undef, undef, undef, undef, undef, undef, undef], defers := [] } : Act) ∧ Hid (Below W0.heap.size W0 w')) ?region13 ?post13
      case region13 =>
        go_region_held (fun w' => (w'.cell? ⟨G9, 0, none⟩ = some (.int .i64 s) ∧ w'.cell? ⟨G9, 1, none⟩ = some (.bool a) ∧ w'.cell? ⟨G9, 2, none⟩ = some (.int .i64 m) ∧ w'.cell? ⟨G9, 3, none⟩ = some (.int .i64 q)) ∧ w'.cell? ⟨GC, 0, none⟩ = some (.int .i64 0)) (go_keep)
          (first
            | (go_at_call 80; (with_reducible refine (KA213.out _ _ (by assumption) (by assumption)).mono ?_); rintro r vb ⟨rfl, hvb, hzb, ⟨j0, j1, j2, j3⟩, y0⟩)
            | (go_at_call 80; (with_reducible refine (KA113.out _ (by assumption)).mono ?_); rintro r va ⟨rfl, hva, ⟨j0, j1, j2, j3⟩, y0⟩; have p1 := nA _ hva; have p2 := nC _ hva; have p3 := p1.symm; have p4 := p2.symm)
            | (go_at_call 79; (with_reducible refine (KB213.out _ _ (by first | assumption | exact AL13 _ _ (by assumption)) (by first | assumption | exact BN13 _ (by assumption))).mono ?_); rintro r vc ⟨rfl, hvc, hzc, ⟨⟨z0, z1, z2, z3⟩, u0, u1, u2, u3⟩, ⟨j0, j1, j2, j3⟩, y0⟩)
            | (go_at_call 79; (with_reducible refine (KB113.out _ (by assumption)).mono ?_); rintro r vd ⟨rfl, hvd, ⟨j0, j1, j2, j3⟩, y0⟩))
        all_goals first
          | exact ⟨_, rfl, hide (hvd.out.alloc hvd.out.size _)⟩
          | exact ⟨_, rfl, hide ((((hvc.out.setCell (p := ⟨va.heap.size, 0, none⟩) hzc.out.2 _).setCell (p := ⟨va.heap.size, 1, none⟩) hzc.out.2 _).setCell (p := ⟨va.heap.size, 2, none⟩) hzc.out.2 _).setCell (p := ⟨va.heap.size, 3, none⟩) hzc.out.2 _)⟩
          | exact ⟨_, rfl, hide ((((hvc.out.setCell (p := ⟨W0.heap.size, 0, none⟩) hzc.out.2 _).setCell (p := ⟨W0.heap.size, 1, none⟩) hzc.out.2 _).setCell (p := ⟨W0.heap.size, 2, none⟩) hzc.out.2 _).setCell (p := ⟨W0.heap.size, 3, none⟩) hzc.out.2 _)⟩
      case post13 =>
        rintro a' W6 ⟨G, rfl, HX⟩
        have hX := HX.out
        have H6 := Lib.hid (And.intro (HO.out.1.below hX HO.out.1.lt) (And.intro (HO.out.2.1.below hX HO.out.2.1.lt) (And.intro ((HO.out.2.2.1.below hX).more hX.size) (And.intro ((HO.out.2.2.2.1.below hX).more hX.size) (HO.out.2.2.2.2.trans (hX.mono HO.out.2.2.2.2.size))))))
        clear n1 n2 n3 n4 hX nA nC HX c0 c1 c2 c3 x0
        go_wp2_with fail
        go_loop [18, 19] (fun cc ii => ∃ (t : Nat), ii = .int .i64 t ∧ t ≤ M.length ∧ cc = .bool ((M.take t).contains 1)) (fun _ ii => M.length - (intOf ii).toNat)
        case atStart => exact ⟨0, rfl, by omega, by simp⟩
        case round =>
          obtain ⟨t, rfl, ht, rfl⟩ := hrel
          by_cases hlt : t < M.length
          · obtain ⟨b, o, rfl, _, d0⟩ := H6.out.2.2.1.num t hlt
            have hnx : (M.take (t + 1)).contains 1 = ((M.take t).contains 1 || (M[t] == 1)) := by
              rw [List.take_succ_eq_append_getElem hlt, List.contains_eq_any_beq, List.any_append, ← List.contains_eq_any_beq, List.any_cons, List.any_nil, Bool.or_false]
              congr 1
              rw [Bool.eq_iff_iff, beq_iff_eq, beq_iff_eq]
              exact eq_comm
            obtain ⟨x, hx⟩ : ∃ x, M[t] = x := ⟨_, rfl⟩
            rw [hx] at d0 hnx
            obtain ⟨T, hT⟩ : ∃ T, (M.take t).contains 1 = T := ⟨_, rfl⟩
            rw [hT] at hnx ⊢
            have hxx : ((x : Int) == 1) = (x == 1) := by
              rw [Bool.eq_iff_iff, beq_iff_eq, beq_iff_eq]
              omega
            have i4 : (0 : Int) ≤ (t : Int) := by omega
            have i5 : (t : Int) < (M.length : Int) := by omega
            have HN := Lib.hid hnx
            clear hnx hT hx
            cases T with
            | true =>
              go_wp2_with fail
              exact ⟨⟨t + 1, by go_num, by omega, by rw [HN.out]; rfl⟩, by simp [intOf] <;> omega⟩
            | false =>
              go_wp2_with fail
              exact ⟨⟨t + 1, by go_num, by omega, by rw [HN.out]; rfl⟩, by simp [intOf] <;> omega⟩
          · obtain rfl : t = M.length := by omega
            have i6 : ¬ (M.length : Int) < (M.length : Int) := by omega
            rw [List.take_length]
            have hFE := HFE.out
            obtain ⟨T, hT⟩ : ∃ T, M.contains 1 = T := ⟨_, rfl⟩
            rw [hT] at hFE ⊢
            clear hT
            go_wp2_with fail
            go_roundw
            case rel => exact ⟨1, _, rfl, by omega, by omega, H6⟩
            case measure => simp [intOf]
    · obtain rfl : iv = 2 := by omega
      clear hiv hjj
      obtain ⟨kA, kC, rM, rE, hb⟩ := HO.out
      have cS := fun w => pStep s a m q 2 400 false w
      obtain ⟨E, hE⟩ : ∃ E, stepE s a m q 2 400 false = E := ⟨_, rfl⟩
      obtain ⟨N, hN⟩ : ∃ N, stepL s a m q 2 400 false = N := ⟨_, rfl⟩
      rw [hE, hN] at cS
      obtain ⟨s2, a2, m2, q2⟩ := N
      unfold lkV linkV evV at cS
      simp only at cS
      have hF : mayF (s, a, m, q) 2 = (E == 0) := by rw [← hE]; exact congrArg (· == 0) (show stE (s, a, m, q) _ = stE (s, a, m, q) (2, 400, false) by first | rfl | exact fit23 _)
      have hcon := HC.out 2 (by omega)
      have hFE : ((E : Int) == 0) = M.contains 2 := by
        rw [hcon, hF]
        cases E with
        | zero => rfl
        | succ x => rw [beqF (by omega)]; rfl
      have HFE := Lib.hid hFE
      have SS13 : Hid (∀ w', Below W0.heap.size W0 w' → (w'.cell? ⟨G9, 0, none⟩ = some (.int .i64 s) ∧ w'.cell? ⟨G9, 1, none⟩ = some (.bool a) ∧ w'.cell? ⟨G9, 2, none⟩ = some (.int .i64 m) ∧ w'.cell? ⟨G9, 3, none⟩ = some (.int .i64 q)) ∧ w'.cell? ⟨GC, 1, none⟩ = some (.int .i64 400)) := hide fun w' hw => by
        have h1 := kA.below hw kA.lt
        have h2 := kC.below hw kC.lt
        exact ⟨⟨h1.cell 0, h1.cell 1, h1.cell 2, h1.cell 3⟩, h2.cell 1⟩
      have KA113 : Hid (∀ X, Hid (Below W0.heap.size W0 X) → Calls Tryd.prog 80 #[.int .i64 2, .int .i64 400, .bool false] X fun e w' => e = .returned (.agg #[.int .i64 2, .int .i64 400, .bool false]) ∧ Hid (Below W0.heap.size W0 w') ∧ ((w'.cell? ⟨G9, 0, none⟩ = some (.int .i64 s) ∧ w'.cell? ⟨G9, 1, none⟩ = some (.bool a) ∧ w'.cell? ⟨G9, 2, none⟩ = some (.int .i64 m) ∧ w'.cell? ⟨G9, 3, none⟩ = some (.int .i64 q)) ∧ w'.cell? ⟨GC, 1, none⟩ = some (.int .i64 400))) := hide fun X hX => (CE.out 2 400 false X).mono fun e w' ⟨he, hb⟩ => ⟨he, hide (hX.out.trans (hb.mono hX.out.size)), SS13.out _ (hX.out.trans (hb.mono hX.out.size))⟩
      have KA213 : Hid (∀ X g, Hid (Below W0.heap.size W0 X) → Hid (Blk X g 76 #[.int .i64 0, .bool false, .int .i64 0, .int .i64 0] ∧ W0.heap.size ≤ g) → Calls Tryd.prog 80 #[.int .i64 2, .int .i64 400, .bool false] X fun e w' => e = .returned (.agg #[.int .i64 2, .int .i64 400, .bool false]) ∧ Hid (Below W0.heap.size W0 w') ∧ Hid (Blk w' g 76 #[.int .i64 0, .bool false, .int .i64 0, .int .i64 0] ∧ W0.heap.size ≤ g) ∧ ((w'.cell? ⟨G9, 0, none⟩ = some (.int .i64 s) ∧ w'.cell? ⟨G9, 1, none⟩ = some (.bool a) ∧ w'.cell? ⟨G9, 2, none⟩ = some (.int .i64 m) ∧ w'.cell? ⟨G9, 3, none⟩ = some (.int .i64 q)) ∧ w'.cell? ⟨GC, 1, none⟩ = some (.int .i64 400))) := hide fun X g hX hg => (CE.out 2 400 false X).mono fun e w' ⟨he, hb⟩ => ⟨he, hide (hX.out.trans (hb.mono hX.out.size)), hide ⟨hg.out.1.below hb hg.out.1.lt, hg.out.2⟩, SS13.out _ (hX.out.trans (hb.mono hX.out.size))⟩
      have KB113 : Hid (∀ X, Hid (Below W0.heap.size W0 X) → Calls Tryd.prog 79 #[.agg #[.int .i64 s, .bool a, .int .i64 m, .int .i64 q], .agg #[.int .i64 2, .int .i64 400, .bool false]] X fun e w' => e = .returned (.tuple #[.agg #[.int .i64 s2, .bool a2, .int .i64 m2, .int .i64 q2], .int .i64 E]) ∧ Hid (Below W0.heap.size W0 w') ∧ ((w'.cell? ⟨G9, 0, none⟩ = some (.int .i64 s) ∧ w'.cell? ⟨G9, 1, none⟩ = some (.bool a) ∧ w'.cell? ⟨G9, 2, none⟩ = some (.int .i64 m) ∧ w'.cell? ⟨G9, 3, none⟩ = some (.int .i64 q)) ∧ w'.cell? ⟨GC, 1, none⟩ = some (.int .i64 400))) := hide fun X hX => (cS X).mono fun e w' ⟨he, hb⟩ => ⟨he, hide (hX.out.trans (hb.mono hX.out.size)), SS13.out _ (hX.out.trans (hb.mono hX.out.size))⟩
      have KB213 : Hid (∀ X g, Hid (Below W0.heap.size W0 X) → Hid (Blk X g 76 #[.int .i64 0, .bool false, .int .i64 0, .int .i64 0] ∧ W0.heap.size ≤ g) → Calls Tryd.prog 79 #[.agg #[.int .i64 s, .bool a, .int .i64 m, .int .i64 q], .agg #[.int .i64 2, .int .i64 400, .bool false]] X fun e w' => e = .returned (.tuple #[.agg #[.int .i64 s2, .bool a2, .int .i64 m2, .int .i64 q2], .int .i64 E]) ∧ Hid (Below W0.heap.size W0 w') ∧ Hid (Blk w' g 76 #[.int .i64 0, .bool false, .int .i64 0, .int .i64 0] ∧ W0.heap.size ≤ g) ∧ ((w'.cell? ⟨g, 0, none⟩ = some (.int .i64 0) ∧ w'.cell? ⟨g, 1, none⟩ = some (.bool false) ∧ w'.cell? ⟨g, 2, none⟩ = some (.int .i64 0) ∧ w'.cell? ⟨g, 3, none⟩ = some (.int .i64 0)) ∧ w'.frozen? ⟨g, 0, none⟩ = false ∧ w'.frozen? ⟨g, 1, none⟩ = false ∧ w'.frozen? ⟨g, 2, none⟩ = false ∧ w'.frozen? ⟨g, 3, none⟩ = false) ∧ ((w'.cell? ⟨G9, 0, none⟩ = some (.int .i64 s) ∧ w'.cell? ⟨G9, 1, none⟩ = some (.bool a) ∧ w'.cell? ⟨G9, 2, none⟩ = some (.int .i64 m) ∧ w'.cell? ⟨G9, 3, none⟩ = some (.int .i64 q)) ∧ w'.cell? ⟨GC, 1, none⟩ = some (.int .i64 400))) := hide fun X g hX hg => (cS X).mono fun e w' ⟨he, hb⟩ => ⟨he, hide (hX.out.trans (hb.mono hX.out.size)), hide ⟨hg.out.1.below hb hg.out.1.lt, hg.out.2⟩, zs_of (hg.out.1.below hb hg.out.1.lt), SS13.out _ (hX.out.trans (hb.mono hX.out.size))⟩
      have HD013 : Hid (Below W0.heap.size W0 W0.drew) := hide (Below.refl _ _).drew
      have HD113 : Hid (Below W0.heap.size W0 (W0.alloc (.cells #[.int .i64 0, .bool false, .int .i64 0, .int .i64 0] 76)).drew) := hide ((Below.refl _ _).alloc (Nat.le_refl _) _).drew
      have HZ113 : Hid (Blk (W0.alloc (.cells #[.int .i64 0, .bool false, .int .i64 0, .int .i64 0] 76)).drew W0.heap.size 76 #[.int .i64 0, .bool false, .int .i64 0, .int .i64 0] ∧ W0.heap.size ≤ W0.heap.size) := hide ⟨Blk.drew (Blk.new W0 _ _), Nat.le_refl _⟩
      have AL13 : ∀ X o, Hid (Below W0.heap.size W0 X) → Hid (Below W0.heap.size W0 (X.alloc o)) := fun X o h => hide (h.out.alloc h.out.size o)
      have BN13 : ∀ X, Hid (Below W0.heap.size W0 X) → Hid (Blk (X.alloc (.cells #[.int .i64 0, .bool false, .int .i64 0, .int .i64 0] 76)) X.heap.size 76 #[.int .i64 0, .bool false, .int .i64 0, .int .i64 0] ∧ W0.heap.size ≤ X.heap.size) := fun X h => hide ⟨Blk.new X _ _, h.out.size⟩
      obtain ⟨⟨c0, c1, c2, c3⟩, x0⟩ := SS13.out W0 (Below.refl _ _)
      have n1 : G9 ≠ W0.heap.size := Nat.ne_of_lt kA.lt
      have n2 : GC ≠ W0.heap.size := Nat.ne_of_lt kC.lt
      have n3 : W0.heap.size ≠ G9 := n1.symm
      have n4 : W0.heap.size ≠ GC := n2.symm
      have nA : ∀ X, Hid (Below W0.heap.size W0 X) → G9 ≠ X.heap.size := fun X h => Nat.ne_of_lt (Nat.lt_of_lt_of_le kA.lt h.out.size)
      have nC : ∀ X, Hid (Below W0.heap.size W0 X) → GC ≠ X.heap.size := fun X h => Nat.ne_of_lt (Nat.lt_of_lt_of_le kC.lt h.out.size)
      clear kA kC rM rE hb hE hN cS hF hcon hFE
      go_wp2_with fail
      refine wp_normalK (R := fun a' w' => ∃ G, a' = ({ tmps := #[.slice A n c, .bool cl, undef, undef, u4, .bool true, .slice B es.length d, .int .i64 j, .bool true, .pointer (some ⟨G9, 0, none⟩), .int .i64 j, .int .i64 0, .slice A3 M.length cc3, .int .i64 0, .slice (some ⟨GC, 0, none⟩) 4 4, .int .i64 2, .pointer (some ⟨G, 0, none⟩), .int .i64 E, u18, u19, undef, undef, undef, undef, undef, undef, .bool true, .tuple #[.slice B es.length d, .int .i64 j, .bool true], .slice A n c, .tuple #[.slice B es.length d, .int .i64 j, .bool true], .slice B es.length d, .int .i64 j, .bool true, .bool true, .bool false, .tuple #[.agg #[.int .i64 s, .bool a, .int .i64 m, .int .i64 q], .int .i64 j, .int .i64 0], .agg #[.int .i64 1, .bool false, .int .i64 0, .int .i64 0], .slice B es.length d, .int .i64 j, .slice B j d, .tuple #[.agg #[.int .i64 s, .bool a, .int .i64 m, .int .i64 q], .int .i64 j, .int .i64 0], .agg #[.int .i64 s, .bool a, .int .i64 m, .int .i64 q], .int .i64 j, .int .i64 0, .tuple #[.slice A3 M.length cc3, .int .i64 0], .agg #[.int .i64 s, .bool a, .int .i64 m, .int .i64 q], .tuple #[.slice A3 M.length cc3, .int .i64 0], .slice A3 M.length cc3, .int .i64 0, .int .i64 0, .bool false, .bool false, .int .i64 0, .bool false, .bool false, .slice (some ⟨GC, 0, none⟩) 4 4, .int .i64 2, .bool true, u58, u59, .tuple #[.agg #[.int .i64 s2, .bool a2, .int .i64 m2, .int .i64 q2], .int .i64 E], .agg #[.int .i64 s, .bool a, .int .i64 m, .int .i64 q], .int .i64 2, .slice (some ⟨GC, 0, none⟩) 4 4, .int .i64 2, .int .i64 1, .pointer (some ⟨GC, 1, none⟩), .int .i64 400, .agg #[.int .i64 2, .int .i64 400, .bool false], .tuple #[.agg #[.int .i64 s2, .bool a2, .int .i64 m2, .int .i64 q2], .int .i64 E], .agg #[.int .i64 s2, .bool a2, .int .i64 m2, .int .i64 q2], .int .i64 E, u72, u73, u74, u75, u76, u77, u78, u79, u80, u81, u82, u83, u84, u85, u86, u87, u88, u89, u90, undef, undef, undef, undef, undef, undef, undef, undef, undef, undef, undef, undef, undef, undef, undef, undef, undef, undef, undef, undef, undef, undef, undef, undef, undef, undef, undef, undef, undef, undef, undef, undef, undef, undef, undef, undef, undef, undef, undef, undef, undef, undef, undef, undef, undef, undef, undef, undef, undef, undef, undef, undef, undef, undef, undef, undef, undef, undef, undef, undef, undef, undef, undef, undef, undef, undef, undef, undef, undef, undef, undef, undef, undef, undef, undef, undef, undef, undef, undef, undef, undef], defers := [] } : Act) ∧ Hid (Below W0.heap.size W0 w')) ?region13 ?post13
      case region13 =>
        go_region_held (fun w' => (w'.cell? ⟨G9, 0, none⟩ = some (.int .i64 s) ∧ w'.cell? ⟨G9, 1, none⟩ = some (.bool a) ∧ w'.cell? ⟨G9, 2, none⟩ = some (.int .i64 m) ∧ w'.cell? ⟨G9, 3, none⟩ = some (.int .i64 q)) ∧ w'.cell? ⟨GC, 1, none⟩ = some (.int .i64 400)) (go_keep)
          (first
            | (go_at_call 80; (with_reducible refine (KA213.out _ _ (by assumption) (by assumption)).mono ?_); rintro r vb ⟨rfl, hvb, hzb, ⟨j0, j1, j2, j3⟩, y0⟩)
            | (go_at_call 80; (with_reducible refine (KA113.out _ (by assumption)).mono ?_); rintro r va ⟨rfl, hva, ⟨j0, j1, j2, j3⟩, y0⟩; have p1 := nA _ hva; have p2 := nC _ hva; have p3 := p1.symm; have p4 := p2.symm)
            | (go_at_call 79; (with_reducible refine (KB213.out _ _ (by first | assumption | exact AL13 _ _ (by assumption)) (by first | assumption | exact BN13 _ (by assumption))).mono ?_); rintro r vc ⟨rfl, hvc, hzc, ⟨⟨z0, z1, z2, z3⟩, u0, u1, u2, u3⟩, ⟨j0, j1, j2, j3⟩, y0⟩)
            | (go_at_call 79; (with_reducible refine (KB113.out _ (by assumption)).mono ?_); rintro r vd ⟨rfl, hvd, ⟨j0, j1, j2, j3⟩, y0⟩))
        all_goals first
          | exact ⟨_, rfl, hide (hvd.out.alloc hvd.out.size _)⟩
          | exact ⟨_, rfl, hide ((((hvc.out.setCell (p := ⟨va.heap.size, 0, none⟩) hzc.out.2 _).setCell (p := ⟨va.heap.size, 1, none⟩) hzc.out.2 _).setCell (p := ⟨va.heap.size, 2, none⟩) hzc.out.2 _).setCell (p := ⟨va.heap.size, 3, none⟩) hzc.out.2 _)⟩
          | exact ⟨_, rfl, hide ((((hvc.out.setCell (p := ⟨W0.heap.size, 0, none⟩) hzc.out.2 _).setCell (p := ⟨W0.heap.size, 1, none⟩) hzc.out.2 _).setCell (p := ⟨W0.heap.size, 2, none⟩) hzc.out.2 _).setCell (p := ⟨W0.heap.size, 3, none⟩) hzc.out.2 _)⟩
      case post13 =>
        rintro a' W6 ⟨G, rfl, HX⟩
        have hX := HX.out
        have H6 := Lib.hid (And.intro (HO.out.1.below hX HO.out.1.lt) (And.intro (HO.out.2.1.below hX HO.out.2.1.lt) (And.intro ((HO.out.2.2.1.below hX).more hX.size) (And.intro ((HO.out.2.2.2.1.below hX).more hX.size) (HO.out.2.2.2.2.trans (hX.mono HO.out.2.2.2.2.size))))))
        clear n1 n2 n3 n4 hX nA nC HX c0 c1 c2 c3 x0
        go_wp2_with fail
        go_loop [18, 19] (fun cc ii => ∃ (t : Nat), ii = .int .i64 t ∧ t ≤ M.length ∧ cc = .bool ((M.take t).contains 2)) (fun _ ii => M.length - (intOf ii).toNat)
        case atStart => exact ⟨0, rfl, by omega, by simp⟩
        case round =>
          obtain ⟨t, rfl, ht, rfl⟩ := hrel
          by_cases hlt : t < M.length
          · obtain ⟨b, o, rfl, _, d0⟩ := H6.out.2.2.1.num t hlt
            have hnx : (M.take (t + 1)).contains 2 = ((M.take t).contains 2 || (M[t] == 2)) := by
              rw [List.take_succ_eq_append_getElem hlt, List.contains_eq_any_beq, List.any_append, ← List.contains_eq_any_beq, List.any_cons, List.any_nil, Bool.or_false]
              congr 1
              rw [Bool.eq_iff_iff, beq_iff_eq, beq_iff_eq]
              exact eq_comm
            obtain ⟨x, hx⟩ : ∃ x, M[t] = x := ⟨_, rfl⟩
            rw [hx] at d0 hnx
            obtain ⟨T, hT⟩ : ∃ T, (M.take t).contains 2 = T := ⟨_, rfl⟩
            rw [hT] at hnx ⊢
            have hxx : ((x : Int) == 2) = (x == 2) := by
              rw [Bool.eq_iff_iff, beq_iff_eq, beq_iff_eq]
              omega
            have i4 : (0 : Int) ≤ (t : Int) := by omega
            have i5 : (t : Int) < (M.length : Int) := by omega
            have HN := Lib.hid hnx
            clear hnx hT hx
            cases T with
            | true =>
              go_wp2_with fail
              exact ⟨⟨t + 1, by go_num, by omega, by rw [HN.out]; rfl⟩, by simp [intOf] <;> omega⟩
            | false =>
              go_wp2_with fail
              exact ⟨⟨t + 1, by go_num, by omega, by rw [HN.out]; rfl⟩, by simp [intOf] <;> omega⟩
          · obtain rfl : t = M.length := by omega
            have i6 : ¬ (M.length : Int) < (M.length : Int) := by omega
            rw [List.take_length]
            have hFE := HFE.out
            obtain ⟨T, hT⟩ : ∃ T, M.contains 2 = T := ⟨_, rfl⟩
            rw [hT] at hFE ⊢
            clear hT
            go_wp2_with fail
            go_roundw
            case rel => exact ⟨2, _, rfl, by omega, by omega, H6⟩
            case measure => simp [intOf]
    · obtain rfl : iv = 3 := by omega
      clear hiv hjj
      obtain ⟨kA, kC, rM, rE, hb⟩ := HO.out
      have cS := fun w => pStep s a m q 3 200 false w
      obtain ⟨E, hE⟩ : ∃ E, stepE s a m q 3 200 false = E := ⟨_, rfl⟩
      obtain ⟨N, hN⟩ : ∃ N, stepL s a m q 3 200 false = N := ⟨_, rfl⟩
      rw [hE, hN] at cS
      obtain ⟨s2, a2, m2, q2⟩ := N
      unfold lkV linkV evV at cS
      simp only at cS
      have hF : mayF (s, a, m, q) 3 = (E == 0) := by rw [← hE]; exact congrArg (· == 0) (show stE (s, a, m, q) _ = stE (s, a, m, q) (3, 200, false) by first | rfl | exact fit23 _)
      have hcon := HC.out 3 (by omega)
      have hFE : ((E : Int) == 0) = M.contains 3 := by
        rw [hcon, hF]
        cases E with
        | zero => rfl
        | succ x => rw [beqF (by omega)]; rfl
      have HFE := Lib.hid hFE
      have SS13 : Hid (∀ w', Below W0.heap.size W0 w' → (w'.cell? ⟨G9, 0, none⟩ = some (.int .i64 s) ∧ w'.cell? ⟨G9, 1, none⟩ = some (.bool a) ∧ w'.cell? ⟨G9, 2, none⟩ = some (.int .i64 m) ∧ w'.cell? ⟨G9, 3, none⟩ = some (.int .i64 q)) ∧ w'.cell? ⟨GC, 2, none⟩ = some (.int .i64 200)) := hide fun w' hw => by
        have h1 := kA.below hw kA.lt
        have h2 := kC.below hw kC.lt
        exact ⟨⟨h1.cell 0, h1.cell 1, h1.cell 2, h1.cell 3⟩, h2.cell 2⟩
      have KA113 : Hid (∀ X, Hid (Below W0.heap.size W0 X) → Calls Tryd.prog 80 #[.int .i64 3, .int .i64 200, .bool false] X fun e w' => e = .returned (.agg #[.int .i64 3, .int .i64 200, .bool false]) ∧ Hid (Below W0.heap.size W0 w') ∧ ((w'.cell? ⟨G9, 0, none⟩ = some (.int .i64 s) ∧ w'.cell? ⟨G9, 1, none⟩ = some (.bool a) ∧ w'.cell? ⟨G9, 2, none⟩ = some (.int .i64 m) ∧ w'.cell? ⟨G9, 3, none⟩ = some (.int .i64 q)) ∧ w'.cell? ⟨GC, 2, none⟩ = some (.int .i64 200))) := hide fun X hX => (CE.out 3 200 false X).mono fun e w' ⟨he, hb⟩ => ⟨he, hide (hX.out.trans (hb.mono hX.out.size)), SS13.out _ (hX.out.trans (hb.mono hX.out.size))⟩
      have KA213 : Hid (∀ X g, Hid (Below W0.heap.size W0 X) → Hid (Blk X g 76 #[.int .i64 0, .bool false, .int .i64 0, .int .i64 0] ∧ W0.heap.size ≤ g) → Calls Tryd.prog 80 #[.int .i64 3, .int .i64 200, .bool false] X fun e w' => e = .returned (.agg #[.int .i64 3, .int .i64 200, .bool false]) ∧ Hid (Below W0.heap.size W0 w') ∧ Hid (Blk w' g 76 #[.int .i64 0, .bool false, .int .i64 0, .int .i64 0] ∧ W0.heap.size ≤ g) ∧ ((w'.cell? ⟨G9, 0, none⟩ = some (.int .i64 s) ∧ w'.cell? ⟨G9, 1, none⟩ = some (.bool a) ∧ w'.cell? ⟨G9, 2, none⟩ = some (.int .i64 m) ∧ w'.cell? ⟨G9, 3, none⟩ = some (.int .i64 q)) ∧ w'.cell? ⟨GC, 2, none⟩ = some (.int .i64 200))) := hide fun X g hX hg => (CE.out 3 200 false X).mono fun e w' ⟨he, hb⟩ => ⟨he, hide (hX.out.trans (hb.mono hX.out.size)), hide ⟨hg.out.1.below hb hg.out.1.lt, hg.out.2⟩, SS13.out _ (hX.out.trans (hb.mono hX.out.size))⟩
      have KB113 : Hid (∀ X, Hid (Below W0.heap.size W0 X) → Calls Tryd.prog 79 #[.agg #[.int .i64 s, .bool a, .int .i64 m, .int .i64 q], .agg #[.int .i64 3, .int .i64 200, .bool false]] X fun e w' => e = .returned (.tuple #[.agg #[.int .i64 s2, .bool a2, .int .i64 m2, .int .i64 q2], .int .i64 E]) ∧ Hid (Below W0.heap.size W0 w') ∧ ((w'.cell? ⟨G9, 0, none⟩ = some (.int .i64 s) ∧ w'.cell? ⟨G9, 1, none⟩ = some (.bool a) ∧ w'.cell? ⟨G9, 2, none⟩ = some (.int .i64 m) ∧ w'.cell? ⟨G9, 3, none⟩ = some (.int .i64 q)) ∧ w'.cell? ⟨GC, 2, none⟩ = some (.int .i64 200))) := hide fun X hX => (cS X).mono fun e w' ⟨he, hb⟩ => ⟨he, hide (hX.out.trans (hb.mono hX.out.size)), SS13.out _ (hX.out.trans (hb.mono hX.out.size))⟩
      have KB213 : Hid (∀ X g, Hid (Below W0.heap.size W0 X) → Hid (Blk X g 76 #[.int .i64 0, .bool false, .int .i64 0, .int .i64 0] ∧ W0.heap.size ≤ g) → Calls Tryd.prog 79 #[.agg #[.int .i64 s, .bool a, .int .i64 m, .int .i64 q], .agg #[.int .i64 3, .int .i64 200, .bool false]] X fun e w' => e = .returned (.tuple #[.agg #[.int .i64 s2, .bool a2, .int .i64 m2, .int .i64 q2], .int .i64 E]) ∧ Hid (Below W0.heap.size W0 w') ∧ Hid (Blk w' g 76 #[.int .i64 0, .bool false, .int .i64 0, .int .i64 0] ∧ W0.heap.size ≤ g) ∧ ((w'.cell? ⟨g, 0, none⟩ = some (.int .i64 0) ∧ w'.cell? ⟨g, 1, none⟩ = some (.bool false) ∧ w'.cell? ⟨g, 2, none⟩ = some (.int .i64 0) ∧ w'.cell? ⟨g, 3, none⟩ = some (.int .i64 0)) ∧ w'.frozen? ⟨g, 0, none⟩ = false ∧ w'.frozen? ⟨g, 1, none⟩ = false ∧ w'.frozen? ⟨g, 2, none⟩ = false ∧ w'.frozen? ⟨g, 3, none⟩ = false) ∧ ((w'.cell? ⟨G9, 0, none⟩ = some (.int .i64 s) ∧ w'.cell? ⟨G9, 1, none⟩ = some (.bool a) ∧ w'.cell? ⟨G9, 2, none⟩ = some (.int .i64 m) ∧ w'.cell? ⟨G9, 3, none⟩ = some (.int .i64 q)) ∧ w'.cell? ⟨GC, 2, none⟩ = some (.int .i64 200))) := hide fun X g hX hg => (cS X).mono fun e w' ⟨he, hb⟩ => ⟨he, hide (hX.out.trans (hb.mono hX.out.size)), hide ⟨hg.out.1.below hb hg.out.1.lt, hg.out.2⟩, zs_of (hg.out.1.below hb hg.out.1.lt), SS13.out _ (hX.out.trans (hb.mono hX.out.size))⟩
      have HD013 : Hid (Below W0.heap.size W0 W0.drew) := hide (Below.refl _ _).drew
      have HD113 : Hid (Below W0.heap.size W0 (W0.alloc (.cells #[.int .i64 0, .bool false, .int .i64 0, .int .i64 0] 76)).drew) := hide ((Below.refl _ _).alloc (Nat.le_refl _) _).drew
      have HZ113 : Hid (Blk (W0.alloc (.cells #[.int .i64 0, .bool false, .int .i64 0, .int .i64 0] 76)).drew W0.heap.size 76 #[.int .i64 0, .bool false, .int .i64 0, .int .i64 0] ∧ W0.heap.size ≤ W0.heap.size) := hide ⟨Blk.drew (Blk.new W0 _ _), Nat.le_refl _⟩
      have AL13 : ∀ X o, Hid (Below W0.heap.size W0 X) → Hid (Below W0.heap.size W0 (X.alloc o)) := fun X o h => hide (h.out.alloc h.out.size o)
      have BN13 : ∀ X, Hid (Below W0.heap.size W0 X) → Hid (Blk (X.alloc (.cells #[.int .i64 0, .bool false, .int .i64 0, .int .i64 0] 76)) X.heap.size 76 #[.int .i64 0, .bool false, .int .i64 0, .int .i64 0] ∧ W0.heap.size ≤ X.heap.size) := fun X h => hide ⟨Blk.new X _ _, h.out.size⟩
      obtain ⟨⟨c0, c1, c2, c3⟩, x0⟩ := SS13.out W0 (Below.refl _ _)
      have n1 : G9 ≠ W0.heap.size := Nat.ne_of_lt kA.lt
      have n2 : GC ≠ W0.heap.size := Nat.ne_of_lt kC.lt
      have n3 : W0.heap.size ≠ G9 := n1.symm
      have n4 : W0.heap.size ≠ GC := n2.symm
      have nA : ∀ X, Hid (Below W0.heap.size W0 X) → G9 ≠ X.heap.size := fun X h => Nat.ne_of_lt (Nat.lt_of_lt_of_le kA.lt h.out.size)
      have nC : ∀ X, Hid (Below W0.heap.size W0 X) → GC ≠ X.heap.size := fun X h => Nat.ne_of_lt (Nat.lt_of_lt_of_le kC.lt h.out.size)
      clear kA kC rM rE hb hE hN cS hF hcon hFE
      go_wp2_with fail
      refine wp_normalK (R := fun a' w' => ∃ G, a' = ({ tmps := #[.slice A n c, .bool cl, undef, undef, u4, .bool true, .slice B es.length d, .int .i64 j, .bool true, .pointer (some ⟨G9, 0, none⟩), .int .i64 j, .int .i64 0, .slice A3 M.length cc3, .int .i64 0, .slice (some ⟨GC, 0, none⟩) 4 4, .int .i64 3, .pointer (some ⟨G, 0, none⟩), .int .i64 E, u18, u19, undef, undef, undef, undef, undef, undef, .bool true, .tuple #[.slice B es.length d, .int .i64 j, .bool true], .slice A n c, .tuple #[.slice B es.length d, .int .i64 j, .bool true], .slice B es.length d, .int .i64 j, .bool true, .bool true, .bool false, .tuple #[.agg #[.int .i64 s, .bool a, .int .i64 m, .int .i64 q], .int .i64 j, .int .i64 0], .agg #[.int .i64 1, .bool false, .int .i64 0, .int .i64 0], .slice B es.length d, .int .i64 j, .slice B j d, .tuple #[.agg #[.int .i64 s, .bool a, .int .i64 m, .int .i64 q], .int .i64 j, .int .i64 0], .agg #[.int .i64 s, .bool a, .int .i64 m, .int .i64 q], .int .i64 j, .int .i64 0, .tuple #[.slice A3 M.length cc3, .int .i64 0], .agg #[.int .i64 s, .bool a, .int .i64 m, .int .i64 q], .tuple #[.slice A3 M.length cc3, .int .i64 0], .slice A3 M.length cc3, .int .i64 0, .int .i64 0, .bool false, .bool false, .int .i64 0, .bool false, .bool false, .slice (some ⟨GC, 0, none⟩) 4 4, .int .i64 3, .bool true, u58, u59, .tuple #[.agg #[.int .i64 s2, .bool a2, .int .i64 m2, .int .i64 q2], .int .i64 E], .agg #[.int .i64 s, .bool a, .int .i64 m, .int .i64 q], .int .i64 3, .slice (some ⟨GC, 0, none⟩) 4 4, .int .i64 3, .int .i64 2, .pointer (some ⟨GC, 2, none⟩), .int .i64 200, .agg #[.int .i64 3, .int .i64 200, .bool false], .tuple #[.agg #[.int .i64 s2, .bool a2, .int .i64 m2, .int .i64 q2], .int .i64 E], .agg #[.int .i64 s2, .bool a2, .int .i64 m2, .int .i64 q2], .int .i64 E, u72, u73, u74, u75, u76, u77, u78, u79, u80, u81, u82, u83, u84, u85, u86, u87, u88, u89, u90, undef, undef, undef, undef, undef, undef, undef, undef, undef, undef, undef, undef, undef, undef, undef, undef, undef, undef, undef, undef, undef, undef, undef, undef, undef, undef, undef, undef, undef, undef, undef, undef, undef, undef, undef, undef, undef, undef, undef, undef, undef, undef, undef, undef, undef, undef, undef, undef, undef, undef, undef, undef, undef, undef, undef, undef, undef, undef, undef, undef, undef, undef, undef, undef, undef, undef, undef, undef, undef, undef, undef, undef, undef, undef, undef, undef, undef, undef, undef, undef, undef], defers := [] } : Act) ∧ Hid (Below W0.heap.size W0 w')) ?region13 ?post13
      case region13 =>
        go_region_held (fun w' => (w'.cell? ⟨G9, 0, none⟩ = some (.int .i64 s) ∧ w'.cell? ⟨G9, 1, none⟩ = some (.bool a) ∧ w'.cell? ⟨G9, 2, none⟩ = some (.int .i64 m) ∧ w'.cell? ⟨G9, 3, none⟩ = some (.int .i64 q)) ∧ w'.cell? ⟨GC, 2, none⟩ = some (.int .i64 200)) (go_keep)
          (first
            | (go_at_call 80; (with_reducible refine (KA213.out _ _ (by assumption) (by assumption)).mono ?_); rintro r vb ⟨rfl, hvb, hzb, ⟨j0, j1, j2, j3⟩, y0⟩)
            | (go_at_call 80; (with_reducible refine (KA113.out _ (by assumption)).mono ?_); rintro r va ⟨rfl, hva, ⟨j0, j1, j2, j3⟩, y0⟩; have p1 := nA _ hva; have p2 := nC _ hva; have p3 := p1.symm; have p4 := p2.symm)
            | (go_at_call 79; (with_reducible refine (KB213.out _ _ (by first | assumption | exact AL13 _ _ (by assumption)) (by first | assumption | exact BN13 _ (by assumption))).mono ?_); rintro r vc ⟨rfl, hvc, hzc, ⟨⟨z0, z1, z2, z3⟩, u0, u1, u2, u3⟩, ⟨j0, j1, j2, j3⟩, y0⟩)
            | (go_at_call 79; (with_reducible refine (KB113.out _ (by assumption)).mono ?_); rintro r vd ⟨rfl, hvd, ⟨j0, j1, j2, j3⟩, y0⟩))
        all_goals first
          | exact ⟨_, rfl, hide (hvd.out.alloc hvd.out.size _)⟩
          | exact ⟨_, rfl, hide ((((hvc.out.setCell (p := ⟨va.heap.size, 0, none⟩) hzc.out.2 _).setCell (p := ⟨va.heap.size, 1, none⟩) hzc.out.2 _).setCell (p := ⟨va.heap.size, 2, none⟩) hzc.out.2 _).setCell (p := ⟨va.heap.size, 3, none⟩) hzc.out.2 _)⟩
          | exact ⟨_, rfl, hide ((((hvc.out.setCell (p := ⟨W0.heap.size, 0, none⟩) hzc.out.2 _).setCell (p := ⟨W0.heap.size, 1, none⟩) hzc.out.2 _).setCell (p := ⟨W0.heap.size, 2, none⟩) hzc.out.2 _).setCell (p := ⟨W0.heap.size, 3, none⟩) hzc.out.2 _)⟩
      case post13 =>
        rintro a' W6 ⟨G, rfl, HX⟩
        have hX := HX.out
        have H6 := Lib.hid (And.intro (HO.out.1.below hX HO.out.1.lt) (And.intro (HO.out.2.1.below hX HO.out.2.1.lt) (And.intro ((HO.out.2.2.1.below hX).more hX.size) (And.intro ((HO.out.2.2.2.1.below hX).more hX.size) (HO.out.2.2.2.2.trans (hX.mono HO.out.2.2.2.2.size))))))
        clear n1 n2 n3 n4 hX nA nC HX c0 c1 c2 c3 x0
        go_wp2_with fail
        go_loop [18, 19] (fun cc ii => ∃ (t : Nat), ii = .int .i64 t ∧ t ≤ M.length ∧ cc = .bool ((M.take t).contains 3)) (fun _ ii => M.length - (intOf ii).toNat)
        case atStart => exact ⟨0, rfl, by omega, by simp⟩
        case round =>
          obtain ⟨t, rfl, ht, rfl⟩ := hrel
          by_cases hlt : t < M.length
          · obtain ⟨b, o, rfl, _, d0⟩ := H6.out.2.2.1.num t hlt
            have hnx : (M.take (t + 1)).contains 3 = ((M.take t).contains 3 || (M[t] == 3)) := by
              rw [List.take_succ_eq_append_getElem hlt, List.contains_eq_any_beq, List.any_append, ← List.contains_eq_any_beq, List.any_cons, List.any_nil, Bool.or_false]
              congr 1
              rw [Bool.eq_iff_iff, beq_iff_eq, beq_iff_eq]
              exact eq_comm
            obtain ⟨x, hx⟩ : ∃ x, M[t] = x := ⟨_, rfl⟩
            rw [hx] at d0 hnx
            obtain ⟨T, hT⟩ : ∃ T, (M.take t).contains 3 = T := ⟨_, rfl⟩
            rw [hT] at hnx ⊢
            have hxx : ((x : Int) == 3) = (x == 3) := by
              rw [Bool.eq_iff_iff, beq_iff_eq, beq_iff_eq]
              omega
            have i4 : (0 : Int) ≤ (t : Int) := by omega
            have i5 : (t : Int) < (M.length : Int) := by omega
            have HN := Lib.hid hnx
            clear hnx hT hx
            cases T with
            | true =>
              go_wp2_with fail
              exact ⟨⟨t + 1, by go_num, by omega, by rw [HN.out]; rfl⟩, by simp [intOf] <;> omega⟩
            | false =>
              go_wp2_with fail
              exact ⟨⟨t + 1, by go_num, by omega, by rw [HN.out]; rfl⟩, by simp [intOf] <;> omega⟩
          · obtain rfl : t = M.length := by omega
            have i6 : ¬ (M.length : Int) < (M.length : Int) := by omega
            rw [List.take_length]
            have hFE := HFE.out
            obtain ⟨T, hT⟩ : ∃ T, M.contains 3 = T := ⟨_, rfl⟩
            rw [hT] at hFE ⊢
            clear hT
            go_wp2_with fail
            go_roundw
            case rel => exact ⟨3, _, rfl, by omega, by omega, H6⟩
            case measure => simp [intOf]
    · obtain rfl : iv = 4 := by omega
      clear hiv hjj
      obtain ⟨kA, kC, rM, rE, hb⟩ := HO.out
      have cS := fun w => pStep s a m q 4 0 false w
      obtain ⟨E, hE⟩ : ∃ E, stepE s a m q 4 0 false = E := ⟨_, rfl⟩
      obtain ⟨N, hN⟩ : ∃ N, stepL s a m q 4 0 false = N := ⟨_, rfl⟩
      rw [hE, hN] at cS
      obtain ⟨s2, a2, m2, q2⟩ := N
      unfold lkV linkV evV at cS
      simp only at cS
      have hF : mayF (s, a, m, q) 4 = (E == 0) := by rw [← hE]; exact congrArg (· == 0) (show stE (s, a, m, q) _ = stE (s, a, m, q) (4, 0, false) by first | rfl | exact fit23 _)
      have hcon := HC.out 4 (by omega)
      have hFE : ((E : Int) == 0) = M.contains 4 := by
        rw [hcon, hF]
        cases E with
        | zero => rfl
        | succ x => rw [beqF (by omega)]; rfl
      have HFE := Lib.hid hFE
      have SS13 : Hid (∀ w', Below W0.heap.size W0 w' → (w'.cell? ⟨G9, 0, none⟩ = some (.int .i64 s) ∧ w'.cell? ⟨G9, 1, none⟩ = some (.bool a) ∧ w'.cell? ⟨G9, 2, none⟩ = some (.int .i64 m) ∧ w'.cell? ⟨G9, 3, none⟩ = some (.int .i64 q)) ∧ w'.cell? ⟨GC, 3, none⟩ = some (.int .i64 0)) := hide fun w' hw => by
        have h1 := kA.below hw kA.lt
        have h2 := kC.below hw kC.lt
        exact ⟨⟨h1.cell 0, h1.cell 1, h1.cell 2, h1.cell 3⟩, h2.cell 3⟩
      have KA113 : Hid (∀ X, Hid (Below W0.heap.size W0 X) → Calls Tryd.prog 80 #[.int .i64 4, .int .i64 0, .bool false] X fun e w' => e = .returned (.agg #[.int .i64 4, .int .i64 0, .bool false]) ∧ Hid (Below W0.heap.size W0 w') ∧ ((w'.cell? ⟨G9, 0, none⟩ = some (.int .i64 s) ∧ w'.cell? ⟨G9, 1, none⟩ = some (.bool a) ∧ w'.cell? ⟨G9, 2, none⟩ = some (.int .i64 m) ∧ w'.cell? ⟨G9, 3, none⟩ = some (.int .i64 q)) ∧ w'.cell? ⟨GC, 3, none⟩ = some (.int .i64 0))) := hide fun X hX => (CE.out 4 0 false X).mono fun e w' ⟨he, hb⟩ => ⟨he, hide (hX.out.trans (hb.mono hX.out.size)), SS13.out _ (hX.out.trans (hb.mono hX.out.size))⟩
      have KA213 : Hid (∀ X g, Hid (Below W0.heap.size W0 X) → Hid (Blk X g 76 #[.int .i64 0, .bool false, .int .i64 0, .int .i64 0] ∧ W0.heap.size ≤ g) → Calls Tryd.prog 80 #[.int .i64 4, .int .i64 0, .bool false] X fun e w' => e = .returned (.agg #[.int .i64 4, .int .i64 0, .bool false]) ∧ Hid (Below W0.heap.size W0 w') ∧ Hid (Blk w' g 76 #[.int .i64 0, .bool false, .int .i64 0, .int .i64 0] ∧ W0.heap.size ≤ g) ∧ ((w'.cell? ⟨G9, 0, none⟩ = some (.int .i64 s) ∧ w'.cell? ⟨G9, 1, none⟩ = some (.bool a) ∧ w'.cell? ⟨G9, 2, none⟩ = some (.int .i64 m) ∧ w'.cell? ⟨G9, 3, none⟩ = some (.int .i64 q)) ∧ w'.cell? ⟨GC, 3, none⟩ = some (.int .i64 0))) := hide fun X g hX hg => (CE.out 4 0 false X).mono fun e w' ⟨he, hb⟩ => ⟨he, hide (hX.out.trans (hb.mono hX.out.size)), hide ⟨hg.out.1.below hb hg.out.1.lt, hg.out.2⟩, SS13.out _ (hX.out.trans (hb.mono hX.out.size))⟩
      have KB113 : Hid (∀ X, Hid (Below W0.heap.size W0 X) → Calls Tryd.prog 79 #[.agg #[.int .i64 s, .bool a, .int .i64 m, .int .i64 q], .agg #[.int .i64 4, .int .i64 0, .bool false]] X fun e w' => e = .returned (.tuple #[.agg #[.int .i64 s2, .bool a2, .int .i64 m2, .int .i64 q2], .int .i64 E]) ∧ Hid (Below W0.heap.size W0 w') ∧ ((w'.cell? ⟨G9, 0, none⟩ = some (.int .i64 s) ∧ w'.cell? ⟨G9, 1, none⟩ = some (.bool a) ∧ w'.cell? ⟨G9, 2, none⟩ = some (.int .i64 m) ∧ w'.cell? ⟨G9, 3, none⟩ = some (.int .i64 q)) ∧ w'.cell? ⟨GC, 3, none⟩ = some (.int .i64 0))) := hide fun X hX => (cS X).mono fun e w' ⟨he, hb⟩ => ⟨he, hide (hX.out.trans (hb.mono hX.out.size)), SS13.out _ (hX.out.trans (hb.mono hX.out.size))⟩
      have KB213 : Hid (∀ X g, Hid (Below W0.heap.size W0 X) → Hid (Blk X g 76 #[.int .i64 0, .bool false, .int .i64 0, .int .i64 0] ∧ W0.heap.size ≤ g) → Calls Tryd.prog 79 #[.agg #[.int .i64 s, .bool a, .int .i64 m, .int .i64 q], .agg #[.int .i64 4, .int .i64 0, .bool false]] X fun e w' => e = .returned (.tuple #[.agg #[.int .i64 s2, .bool a2, .int .i64 m2, .int .i64 q2], .int .i64 E]) ∧ Hid (Below W0.heap.size W0 w') ∧ Hid (Blk w' g 76 #[.int .i64 0, .bool false, .int .i64 0, .int .i64 0] ∧ W0.heap.size ≤ g) ∧ ((w'.cell? ⟨g, 0, none⟩ = some (.int .i64 0) ∧ w'.cell? ⟨g, 1, none⟩ = some (.bool false) ∧ w'.cell? ⟨g, 2, none⟩ = some (.int .i64 0) ∧ w'.cell? ⟨g, 3, none⟩ = some (.int .i64 0)) ∧ w'.frozen? ⟨g, 0, none⟩ = false ∧ w'.frozen? ⟨g, 1, none⟩ = false ∧ w'.frozen? ⟨g, 2, none⟩ = false ∧ w'.frozen? ⟨g, 3, none⟩ = false) ∧ ((w'.cell? ⟨G9, 0, none⟩ = some (.int .i64 s) ∧ w'.cell? ⟨G9, 1, none⟩ = some (.bool a) ∧ w'.cell? ⟨G9, 2, none⟩ = some (.int .i64 m) ∧ w'.cell? ⟨G9, 3, none⟩ = some (.int .i64 q)) ∧ w'.cell? ⟨GC, 3, none⟩ = some (.int .i64 0))) := hide fun X g hX hg => (cS X).mono fun e w' ⟨he, hb⟩ => ⟨he, hide (hX.out.trans (hb.mono hX.out.size)), hide ⟨hg.out.1.below hb hg.out.1.lt, hg.out.2⟩, zs_of (hg.out.1.below hb hg.out.1.lt), SS13.out _ (hX.out.trans (hb.mono hX.out.size))⟩
      have HD013 : Hid (Below W0.heap.size W0 W0.drew) := hide (Below.refl _ _).drew
      have HD113 : Hid (Below W0.heap.size W0 (W0.alloc (.cells #[.int .i64 0, .bool false, .int .i64 0, .int .i64 0] 76)).drew) := hide ((Below.refl _ _).alloc (Nat.le_refl _) _).drew
      have HZ113 : Hid (Blk (W0.alloc (.cells #[.int .i64 0, .bool false, .int .i64 0, .int .i64 0] 76)).drew W0.heap.size 76 #[.int .i64 0, .bool false, .int .i64 0, .int .i64 0] ∧ W0.heap.size ≤ W0.heap.size) := hide ⟨Blk.drew (Blk.new W0 _ _), Nat.le_refl _⟩
      have AL13 : ∀ X o, Hid (Below W0.heap.size W0 X) → Hid (Below W0.heap.size W0 (X.alloc o)) := fun X o h => hide (h.out.alloc h.out.size o)
      have BN13 : ∀ X, Hid (Below W0.heap.size W0 X) → Hid (Blk (X.alloc (.cells #[.int .i64 0, .bool false, .int .i64 0, .int .i64 0] 76)) X.heap.size 76 #[.int .i64 0, .bool false, .int .i64 0, .int .i64 0] ∧ W0.heap.size ≤ X.heap.size) := fun X h => hide ⟨Blk.new X _ _, h.out.size⟩
      obtain ⟨⟨c0, c1, c2, c3⟩, x0⟩ := SS13.out W0 (Below.refl _ _)
      have n1 : G9 ≠ W0.heap.size := Nat.ne_of_lt kA.lt
      have n2 : GC ≠ W0.heap.size := Nat.ne_of_lt kC.lt
      have n3 : W0.heap.size ≠ G9 := n1.symm
      have n4 : W0.heap.size ≠ GC := n2.symm
      have nA : ∀ X, Hid (Below W0.heap.size W0 X) → G9 ≠ X.heap.size := fun X h => Nat.ne_of_lt (Nat.lt_of_lt_of_le kA.lt h.out.size)
      have nC : ∀ X, Hid (Below W0.heap.size W0 X) → GC ≠ X.heap.size := fun X h => Nat.ne_of_lt (Nat.lt_of_lt_of_le kC.lt h.out.size)
      clear kA kC rM rE hb hE hN cS hF hcon hFE
      go_wp2_with fail
      refine wp_normalK (R := fun a' w' => ∃ G, a' = ({ tmps := #[.slice A n c, .bool cl, undef, undef, u4, .bool true, .slice B es.length d, .int .i64 j, .bool true, .pointer (some ⟨G9, 0, none⟩), .int .i64 j, .int .i64 0, .slice A3 M.length cc3, .int .i64 0, .slice (some ⟨GC, 0, none⟩) 4 4, .int .i64 4, .pointer (some ⟨G, 0, none⟩), .int .i64 E, u18, u19, undef, undef, undef, undef, undef, undef, .bool true, .tuple #[.slice B es.length d, .int .i64 j, .bool true], .slice A n c, .tuple #[.slice B es.length d, .int .i64 j, .bool true], .slice B es.length d, .int .i64 j, .bool true, .bool true, .bool false, .tuple #[.agg #[.int .i64 s, .bool a, .int .i64 m, .int .i64 q], .int .i64 j, .int .i64 0], .agg #[.int .i64 1, .bool false, .int .i64 0, .int .i64 0], .slice B es.length d, .int .i64 j, .slice B j d, .tuple #[.agg #[.int .i64 s, .bool a, .int .i64 m, .int .i64 q], .int .i64 j, .int .i64 0], .agg #[.int .i64 s, .bool a, .int .i64 m, .int .i64 q], .int .i64 j, .int .i64 0, .tuple #[.slice A3 M.length cc3, .int .i64 0], .agg #[.int .i64 s, .bool a, .int .i64 m, .int .i64 q], .tuple #[.slice A3 M.length cc3, .int .i64 0], .slice A3 M.length cc3, .int .i64 0, .int .i64 0, .bool false, .bool false, .int .i64 0, .bool false, .bool false, .slice (some ⟨GC, 0, none⟩) 4 4, .int .i64 4, .bool true, u58, u59, .tuple #[.agg #[.int .i64 s2, .bool a2, .int .i64 m2, .int .i64 q2], .int .i64 E], .agg #[.int .i64 s, .bool a, .int .i64 m, .int .i64 q], .int .i64 4, .slice (some ⟨GC, 0, none⟩) 4 4, .int .i64 4, .int .i64 3, .pointer (some ⟨GC, 3, none⟩), .int .i64 0, .agg #[.int .i64 4, .int .i64 0, .bool false], .tuple #[.agg #[.int .i64 s2, .bool a2, .int .i64 m2, .int .i64 q2], .int .i64 E], .agg #[.int .i64 s2, .bool a2, .int .i64 m2, .int .i64 q2], .int .i64 E, u72, u73, u74, u75, u76, u77, u78, u79, u80, u81, u82, u83, u84, u85, u86, u87, u88, u89, u90, undef, undef, undef, undef, undef, undef, undef, undef, undef, undef, undef, undef, undef, undef, undef, undef, undef, undef, undef, undef, undef, undef, undef, undef, undef, undef, undef, undef, undef, undef, undef, undef, undef, undef, undef, undef, undef, undef, undef, undef, undef, undef, undef, undef, undef, undef, undef, undef, undef, undef, undef, undef, undef, undef, undef, undef, undef, undef, undef, undef, undef, undef, undef, undef, undef, undef, undef, undef, undef, undef, undef, undef, undef, undef, undef, undef, undef, undef, undef, undef, undef], defers := [] } : Act) ∧ Hid (Below W0.heap.size W0 w')) ?region13 ?post13
      case region13 =>
        go_region_held (fun w' => (w'.cell? ⟨G9, 0, none⟩ = some (.int .i64 s) ∧ w'.cell? ⟨G9, 1, none⟩ = some (.bool a) ∧ w'.cell? ⟨G9, 2, none⟩ = some (.int .i64 m) ∧ w'.cell? ⟨G9, 3, none⟩ = some (.int .i64 q)) ∧ w'.cell? ⟨GC, 3, none⟩ = some (.int .i64 0)) (go_keep)
          (first
            | (go_at_call 80; (with_reducible refine (KA213.out _ _ (by assumption) (by assumption)).mono ?_); rintro r vb ⟨rfl, hvb, hzb, ⟨j0, j1, j2, j3⟩, y0⟩)
            | (go_at_call 80; (with_reducible refine (KA113.out _ (by assumption)).mono ?_); rintro r va ⟨rfl, hva, ⟨j0, j1, j2, j3⟩, y0⟩; have p1 := nA _ hva; have p2 := nC _ hva; have p3 := p1.symm; have p4 := p2.symm)
            | (go_at_call 79; (with_reducible refine (KB213.out _ _ (by first | assumption | exact AL13 _ _ (by assumption)) (by first | assumption | exact BN13 _ (by assumption))).mono ?_); rintro r vc ⟨rfl, hvc, hzc, ⟨⟨z0, z1, z2, z3⟩, u0, u1, u2, u3⟩, ⟨j0, j1, j2, j3⟩, y0⟩)
            | (go_at_call 79; (with_reducible refine (KB113.out _ (by assumption)).mono ?_); rintro r vd ⟨rfl, hvd, ⟨j0, j1, j2, j3⟩, y0⟩))
        all_goals first
          | exact ⟨_, rfl, hide (hvd.out.alloc hvd.out.size _)⟩
          | exact ⟨_, rfl, hide ((((hvc.out.setCell (p := ⟨va.heap.size, 0, none⟩) hzc.out.2 _).setCell (p := ⟨va.heap.size, 1, none⟩) hzc.out.2 _).setCell (p := ⟨va.heap.size, 2, none⟩) hzc.out.2 _).setCell (p := ⟨va.heap.size, 3, none⟩) hzc.out.2 _)⟩
          | exact ⟨_, rfl, hide ((((hvc.out.setCell (p := ⟨W0.heap.size, 0, none⟩) hzc.out.2 _).setCell (p := ⟨W0.heap.size, 1, none⟩) hzc.out.2 _).setCell (p := ⟨W0.heap.size, 2, none⟩) hzc.out.2 _).setCell (p := ⟨W0.heap.size, 3, none⟩) hzc.out.2 _)⟩
      case post13 =>
        rintro a' W6 ⟨G, rfl, HX⟩
        have hX := HX.out
        have H6 := Lib.hid (And.intro (HO.out.1.below hX HO.out.1.lt) (And.intro (HO.out.2.1.below hX HO.out.2.1.lt) (And.intro ((HO.out.2.2.1.below hX).more hX.size) (And.intro ((HO.out.2.2.2.1.below hX).more hX.size) (HO.out.2.2.2.2.trans (hX.mono HO.out.2.2.2.2.size))))))
        clear n1 n2 n3 n4 hX nA nC HX c0 c1 c2 c3 x0
        go_wp2_with fail
        go_loop [18, 19] (fun cc ii => ∃ (t : Nat), ii = .int .i64 t ∧ t ≤ M.length ∧ cc = .bool ((M.take t).contains 4)) (fun _ ii => M.length - (intOf ii).toNat)
        case atStart => exact ⟨0, rfl, by omega, by simp⟩
        case round =>
          obtain ⟨t, rfl, ht, rfl⟩ := hrel
          by_cases hlt : t < M.length
          · obtain ⟨b, o, rfl, _, d0⟩ := H6.out.2.2.1.num t hlt
            have hnx : (M.take (t + 1)).contains 4 = ((M.take t).contains 4 || (M[t] == 4)) := by
              rw [List.take_succ_eq_append_getElem hlt, List.contains_eq_any_beq, List.any_append, ← List.contains_eq_any_beq, List.any_cons, List.any_nil, Bool.or_false]
              congr 1
              rw [Bool.eq_iff_iff, beq_iff_eq, beq_iff_eq]
              exact eq_comm
            obtain ⟨x, hx⟩ : ∃ x, M[t] = x := ⟨_, rfl⟩
            rw [hx] at d0 hnx
            obtain ⟨T, hT⟩ : ∃ T, (M.take t).contains 4 = T := ⟨_, rfl⟩
            rw [hT] at hnx ⊢
            have hxx : ((x : Int) == 4) = (x == 4) := by
              rw [Bool.eq_iff_iff, beq_iff_eq, beq_iff_eq]
              omega
            have i4 : (0 : Int) ≤ (t : Int) := by omega
            have i5 : (t : Int) < (M.length : Int) := by omega
            have HN := Lib.hid hnx
            clear hnx hT hx
            cases T with
            | true =>
              go_wp2_with fail
              exact ⟨⟨t + 1, by go_num, by omega, by rw [HN.out]; rfl⟩, by simp [intOf] <;> omega⟩
            | false =>
              go_wp2_with fail
              exact ⟨⟨t + 1, by go_num, by omega, by rw [HN.out]; rfl⟩, by simp [intOf] <;> omega⟩
          · obtain rfl : t = M.length := by omega
            have i6 : ¬ (M.length : Int) < (M.length : Int) := by omega
            rw [List.take_length]
            have hFE := HFE.out
            obtain ⟨T, hT⟩ : ∃ T, M.contains 4 = T := ⟨_, rfl⟩
            rw [hT] at hFE ⊢
            clear hT
            go_wp2_with fail
            go_roundw
            case rel => exact ⟨4, _, rfl, by omega, by omega, H6⟩
            case measure => simp [intOf]
    · obtain rfl : iv = 5 := by omega
      clear hiv hjj
      obtain ⟨kA, kC, rM, rE, hb⟩ := HO.out
      have y0 : W0.cell? ⟨G9, 0, none⟩ = some (.int .i64 s) := kA.cell 0
      have y1 : W0.cell? ⟨G9, 1, none⟩ = some (.bool a) := kA.cell 1
      have y2 : W0.cell? ⟨G9, 2, none⟩ = some (.int .i64 m) := kA.cell 2
      have y3 : W0.cell? ⟨G9, 3, none⟩ = some (.int .i64 q) := kA.cell 3
      by_cases hs : s = 2
      · subst hs
        obtain ⟨hinv, hval, hmn, hok, hZ⟩ := HV.out
        have hask := hinv.1 rfl
        have hm := hinv.2.2
        have hE : stE (2, a, m, q) (3, 200, cl) = 0 := by
          unfold stE stepE
          simp only
          rw [if_neg (by rw [show chkL 2 a m q = 0 from hval]; simp), if_neg (by unfold fitL; simp), if_neg]
          rintro (h | h)
          · exact absurd h (by decide)
          · omega
        have hN : stL (2, a, m, q) (3, 200, cl) = ((if a = true ∨ cl = true then 3 else 1), false, m + 1, 200) := by
          obtain ⟨_, _, _, _, hl⟩ := step_facts hE
          rw [hl]
          unfold aftL
          simp only
          rw [if_neg (by decide), if_neg (by decide)]
          have hm1 : ¬ (m + 1 = 1000000) := by omega
          simp [hm1]
        have cK := fun w => pKeep (2, a, m, q) cl w
        have hkv : keepV (2, a, m, q) cl = (!a && !cl, 0) := by
          unfold keepV
          rw [if_neg (by rw [hval]; simp), if_neg (by simp), hE, hN]
          cases a <;> cases cl <;> rfl
        rw [hkv] at cK
        have CKp := Lib.hid cK
        have cS := fun w => pStep 2 a m q 3 200 cl w
        rw [show stepE 2 a m q 3 200 cl = 0 from hE, show stepL 2 a m q 3 200 cl = ((if a = true ∨ cl = true then 3 else 1), false, m + 1, 200) from hN] at cS
        obtain ⟨S2, hS2⟩ : ∃ S2, (if a = true ∨ cl = true then (3 : Int) else 1) = S2 := ⟨_, rfl⟩
        rw [hS2] at cS
        unfold lkV linkV evV at cS
        simp only at cS
        have hS3 : (S2 == 1) = (!a && !cl) := by rw [← hS2]; cases a <;> cases cl <;> rfl
        have HS3 := Lib.hid (And.intro hS3 (And.intro hask (And.intro hmn hm)))
        have H6 := Lib.hid (And.intro kA (And.intro rE hb))
        clear kA kC rM rE hb hinv hval hmn hok hZ hask hm hE hN hkv cK hS2 hS3 HO
        go_wp2_with fail
        (with_reducible refine (CKp.out _).mono ?_); rintro e w7 ⟨rfl, g7⟩
        clear y0 y1 y2 y3
        have kA := H6.out.1.below g7 H6.out.1.lt
        have rE := (H6.out.2.1.below g7).more g7.size
        have hb := H6.out.2.2.trans (g7.mono H6.out.2.2.size)
        clear g7 H6
        have SS24 : Hid (∀ w', Below w7.heap.size w7 w' → w'.cell? ⟨G9, 0, none⟩ = some (.int .i64 2) ∧ w'.cell? ⟨G9, 1, none⟩ = some (.bool a) ∧ w'.cell? ⟨G9, 2, none⟩ = some (.int .i64 m) ∧ w'.cell? ⟨G9, 3, none⟩ = some (.int .i64 q)) := hide fun w' hw => by
          have h1 := kA.below hw kA.lt
          exact ⟨h1.cell 0, h1.cell 1, h1.cell 2, h1.cell 3⟩
        have KA124 : Hid (∀ X, Hid (Below w7.heap.size w7 X) → Calls Tryd.prog 80 #[.int .i64 3, .int .i64 200, .bool cl] X fun e w' => e = .returned (.agg #[.int .i64 3, .int .i64 200, .bool cl]) ∧ Hid (Below w7.heap.size w7 w') ∧ (w'.cell? ⟨G9, 0, none⟩ = some (.int .i64 2) ∧ w'.cell? ⟨G9, 1, none⟩ = some (.bool a) ∧ w'.cell? ⟨G9, 2, none⟩ = some (.int .i64 m) ∧ w'.cell? ⟨G9, 3, none⟩ = some (.int .i64 q))) := hide fun X hX => (CE.out 3 200 cl X).mono fun e w' ⟨he, hb⟩ => ⟨he, hide (hX.out.trans (hb.mono hX.out.size)), SS24.out _ (hX.out.trans (hb.mono hX.out.size))⟩
        have KA224 : Hid (∀ X g, Hid (Below w7.heap.size w7 X) → Hid (Blk X g 76 #[.int .i64 0, .bool false, .int .i64 0, .int .i64 0] ∧ w7.heap.size ≤ g) → Calls Tryd.prog 80 #[.int .i64 3, .int .i64 200, .bool cl] X fun e w' => e = .returned (.agg #[.int .i64 3, .int .i64 200, .bool cl]) ∧ Hid (Below w7.heap.size w7 w') ∧ Hid (Blk w' g 76 #[.int .i64 0, .bool false, .int .i64 0, .int .i64 0] ∧ w7.heap.size ≤ g) ∧ (w'.cell? ⟨G9, 0, none⟩ = some (.int .i64 2) ∧ w'.cell? ⟨G9, 1, none⟩ = some (.bool a) ∧ w'.cell? ⟨G9, 2, none⟩ = some (.int .i64 m) ∧ w'.cell? ⟨G9, 3, none⟩ = some (.int .i64 q))) := hide fun X g hX hg => (CE.out 3 200 cl X).mono fun e w' ⟨he, hb⟩ => ⟨he, hide (hX.out.trans (hb.mono hX.out.size)), hide ⟨hg.out.1.below hb hg.out.1.lt, hg.out.2⟩, SS24.out _ (hX.out.trans (hb.mono hX.out.size))⟩
        have KB124 : Hid (∀ X, Hid (Below w7.heap.size w7 X) → Calls Tryd.prog 79 #[.agg #[.int .i64 2, .bool a, .int .i64 m, .int .i64 q], .agg #[.int .i64 3, .int .i64 200, .bool cl]] X fun e w' => e = .returned (.tuple #[.agg #[.int .i64 S2, .bool false, .int .i64 (m + 1), .int .i64 200], .int .i64 0]) ∧ Hid (Below w7.heap.size w7 w') ∧ (w'.cell? ⟨G9, 0, none⟩ = some (.int .i64 2) ∧ w'.cell? ⟨G9, 1, none⟩ = some (.bool a) ∧ w'.cell? ⟨G9, 2, none⟩ = some (.int .i64 m) ∧ w'.cell? ⟨G9, 3, none⟩ = some (.int .i64 q))) := hide fun X hX => (cS X).mono fun e w' ⟨he, hb⟩ => ⟨he, hide (hX.out.trans (hb.mono hX.out.size)), SS24.out _ (hX.out.trans (hb.mono hX.out.size))⟩
        have KB224 : Hid (∀ X g, Hid (Below w7.heap.size w7 X) → Hid (Blk X g 76 #[.int .i64 0, .bool false, .int .i64 0, .int .i64 0] ∧ w7.heap.size ≤ g) → Calls Tryd.prog 79 #[.agg #[.int .i64 2, .bool a, .int .i64 m, .int .i64 q], .agg #[.int .i64 3, .int .i64 200, .bool cl]] X fun e w' => e = .returned (.tuple #[.agg #[.int .i64 S2, .bool false, .int .i64 (m + 1), .int .i64 200], .int .i64 0]) ∧ Hid (Below w7.heap.size w7 w') ∧ Hid (Blk w' g 76 #[.int .i64 0, .bool false, .int .i64 0, .int .i64 0] ∧ w7.heap.size ≤ g) ∧ ((w'.cell? ⟨g, 0, none⟩ = some (.int .i64 0) ∧ w'.cell? ⟨g, 1, none⟩ = some (.bool false) ∧ w'.cell? ⟨g, 2, none⟩ = some (.int .i64 0) ∧ w'.cell? ⟨g, 3, none⟩ = some (.int .i64 0)) ∧ w'.frozen? ⟨g, 0, none⟩ = false ∧ w'.frozen? ⟨g, 1, none⟩ = false ∧ w'.frozen? ⟨g, 2, none⟩ = false ∧ w'.frozen? ⟨g, 3, none⟩ = false) ∧ (w'.cell? ⟨G9, 0, none⟩ = some (.int .i64 2) ∧ w'.cell? ⟨G9, 1, none⟩ = some (.bool a) ∧ w'.cell? ⟨G9, 2, none⟩ = some (.int .i64 m) ∧ w'.cell? ⟨G9, 3, none⟩ = some (.int .i64 q))) := hide fun X g hX hg => (cS X).mono fun e w' ⟨he, hb⟩ => ⟨he, hide (hX.out.trans (hb.mono hX.out.size)), hide ⟨hg.out.1.below hb hg.out.1.lt, hg.out.2⟩, zs_of (hg.out.1.below hb hg.out.1.lt), SS24.out _ (hX.out.trans (hb.mono hX.out.size))⟩
        have HD024 : Hid (Below w7.heap.size w7 w7.drew) := hide (Below.refl _ _).drew
        have HD124 : Hid (Below w7.heap.size w7 (w7.alloc (.cells #[.int .i64 0, .bool false, .int .i64 0, .int .i64 0] 76)).drew) := hide ((Below.refl _ _).alloc (Nat.le_refl _) _).drew
        have HZ124 : Hid (Blk (w7.alloc (.cells #[.int .i64 0, .bool false, .int .i64 0, .int .i64 0] 76)).drew w7.heap.size 76 #[.int .i64 0, .bool false, .int .i64 0, .int .i64 0] ∧ w7.heap.size ≤ w7.heap.size) := hide ⟨Blk.drew (Blk.new w7 _ _), Nat.le_refl _⟩
        have AL24 : ∀ X o, Hid (Below w7.heap.size w7 X) → Hid (Below w7.heap.size w7 (X.alloc o)) := fun X o h => hide (h.out.alloc h.out.size o)
        have BN24 : ∀ X, Hid (Below w7.heap.size w7 X) → Hid (Blk (X.alloc (.cells #[.int .i64 0, .bool false, .int .i64 0, .int .i64 0] 76)) X.heap.size 76 #[.int .i64 0, .bool false, .int .i64 0, .int .i64 0] ∧ w7.heap.size ≤ X.heap.size) := fun X h => hide ⟨Blk.new X _ _, h.out.size⟩
        obtain ⟨c0, c1, c2, c3⟩ := SS24.out w7 (Below.refl _ _)
        have n1 : G9 ≠ w7.heap.size := Nat.ne_of_lt kA.lt
        have n3 : w7.heap.size ≠ G9 := n1.symm
        have nA : ∀ X, Hid (Below w7.heap.size w7 X) → G9 ≠ X.heap.size := fun X h => Nat.ne_of_lt (Nat.lt_of_lt_of_le kA.lt h.out.size)
        have H7 := Lib.hid (And.intro kA (And.intro rE hb))
        clear kA rE hb cS
        go_wp2_with fail
        go_region_held (fun w' => w'.cell? ⟨G9, 0, none⟩ = some (.int .i64 2) ∧ w'.cell? ⟨G9, 1, none⟩ = some (.bool a) ∧ w'.cell? ⟨G9, 2, none⟩ = some (.int .i64 m) ∧ w'.cell? ⟨G9, 3, none⟩ = some (.int .i64 q)) (go_keep)
          (first
            | (go_at_call 80; (with_reducible refine (KA224.out _ _ (by assumption) (by assumption)).mono ?_); rintro r vb ⟨rfl, hvb, hzb, j0, j1, j2, j3⟩)
            | (go_at_call 80; (with_reducible refine (KA124.out _ (by assumption)).mono ?_); rintro r va ⟨rfl, hva, j0, j1, j2, j3⟩; have p1 := nA _ hva; have p3 := p1.symm)
            | (go_at_call 79; (with_reducible refine (KB224.out _ _ (by first | assumption | exact AL24 _ _ (by assumption)) (by first | assumption | exact BN24 _ (by assumption))).mono ?_); rintro r vc ⟨rfl, hvc, hzc, ⟨⟨z0, z1, z2, z3⟩, u0, u1, u2, u3⟩, j0, j1, j2, j3⟩)
            | (go_at_call 79; (with_reducible refine (KB124.out _ (by assumption)).mono ?_); rintro r vd ⟨rfl, hvd, j0, j1, j2, j3⟩))
        · have hX := hvd.out.alloc hvd.out.size (.cells #[.int .i64 S2, .bool false, .int .i64 (m + 1), .int .i64 200] 76)
          have kN := Blk.new vd 76 #[.int .i64 S2, .bool false, .int .i64 (m + 1), .int .i64 200]
          clear j0 j1 j2 j3 c0 c1 c2 c3
          generalize vd.alloc (.cells #[.int .i64 S2, .bool false, .int .i64 (m + 1), .int .i64 200] 76) = W6 at hX kN ⊢
          generalize vd.heap.size = G at kN ⊢
          have kA := H7.out.1.below hX H7.out.1.lt
          have rE := (H7.out.2.1.below hX).more hX.size
          have hb := H7.out.2.2.trans (hX.mono H7.out.2.2.size)
          have v0 : W6.cell? ⟨G, 0, none⟩ = some (.int .i64 S2) := kN.cell 0
          have v2 : W6.cell? ⟨G, 2, none⟩ = some (.int .i64 (m + 1)) := kN.cell 2
          have y2 : W6.cell? ⟨G9, 2, none⟩ = some (.int .i64 m) := kA.cell 2
          have H8 := Lib.hid (And.intro rE hb)
          clear kA rE hb kN hX n1 n3 nA
          go_wp2_with fail
          go_loop [24, 25] (fun av iv => ∃ (r : Nat) (T : Bool) (ri : Int), av = .bool T ∧ iv = .int .i64 ri ∧ ri = (r : Int) - 1 ∧ r ≤ j ∧ Hid ((T || askF (es.take r)) = askF (es.take j))) (fun _ iv => (intOf iv + 1).toNat)
          case atStart => exact ⟨j, false, _, rfl, rfl, by omega, by omega, hide (by simp)⟩
          case round =>
            obtain ⟨r, T, ri, rfl, rfl, hri, hr, HT⟩ := hrel
            have fin : askF (es.take j) = T → Hid (T = a) := fun h => hide (by rw [← h]; exact HS3.out.2.1.symm)
            cases r with
            | zero =>
              obtain rfl : ri = -1 := by omega
              have hTa := fin (by rw [← HT.out]; simp [askF])
              obtain rfl := hTa.out
              have hS3 := HS3.out.1
              have hmb := HS3.out.2.2.1
              have hmb1 := hmb.1
              have hmb2 := hmb.2
              clear fin HT hmb hri
              cases T <;> cases cl
              all_goals (
                go_wp2_with fail
                go_ret
                exact ⟨rfl, H8.out.2⟩)
            | succ r =>
              obtain rfl : ri = (r : Int) := by omega
              have hlt : r < es.length := by omega
              obtain ⟨b, o, rfl, _, hc⟩ := H8.out.1.ev (by omega)
              obtain ⟨d0, d1, d2⟩ := hc r hlt
              have hsn : askF (es.take (r + 1)) = if (es[r]).1 = 3 then false else askF (es.take r) || ((es[r]).1 == 4 || (es[r]).2.2) := by
                rw [List.take_succ_eq_append_getElem hlt, askF_snoc]
              obtain ⟨⟨k, cd, cb⟩, hev⟩ : ∃ ev, es[r] = ev := ⟨_, rfl⟩
              rw [hev] at d0 d1 d2 hsn
              simp only at hsn d0 d1 d2
              have i4 : (0 : Int) ≤ (r : Int) := by omega
              have i5 : (r : Int) < (es.length : Int) := by omega
              by_cases hk : k = 3
              · subst hk
                rw [if_pos rfl] at hsn
                have hTa := fin (by rw [← HT.out, hsn]; simp)
                obtain rfl := hTa.out
                have hS3 := HS3.out.1
                have hmb := HS3.out.2.2.1
                have hmb1 := hmb.1
                have hmb2 := hmb.2
                clear fin HT hmb hsn hri hev hc
                cases T <;> cases cl
                all_goals (
                  go_wp2_with fail
                  go_ret
                  exact ⟨rfl, H8.out.2⟩)
              · have t3 : (k != 3) = true := bneT hk
                rw [if_neg hk] at hsn
                have HT2 : Hid (((T || (k == 4 || cb)) || askF (es.take r)) = askF (es.take j)) := hide (by rw [← HT.out, hsn]; cases T <;> cases (k == 4) <;> cases cb <;> cases askF (es.take r) <;> rfl)
                clear fin HT hsn hri hev hc
                cases T with
                | true =>
                  go_wp2_with fail
                  exact ⟨⟨r, true, _, rfl, rfl, by omega, by omega, HT2⟩, by simp [intOf] <;> omega⟩
                | false =>
                  by_cases hk4 : k = 4
                  · subst hk4
                    go_wp2_with fail
                    exact ⟨⟨r, true, _, rfl, rfl, by omega, by omega, HT2⟩, by simp [intOf] <;> omega⟩
                  · have t4 : (k == 4) = false := beqF hk4
                    rw [t4] at HT2
                    go_wp2_with fail
                    exact ⟨⟨r, cb, _, rfl, rfl, by omega, by omega, HT2⟩, by simp [intOf] <;> omega⟩
        · have hX := (((hvc.out.setCell (p := ⟨va.heap.size, 0, none⟩) hzc.out.2 (.int .i64 S2)).setCell (p := ⟨va.heap.size, 1, none⟩) hzc.out.2 (.bool false)).setCell (p := ⟨va.heap.size, 2, none⟩) hzc.out.2 (.int .i64 (m + 1))).setCell (p := ⟨va.heap.size, 3, none⟩) hzc.out.2 (.int .i64 200)
          have kN : Blk ((((vc.setCell ⟨va.heap.size, 0, none⟩ (.int .i64 S2)).setCell ⟨va.heap.size, 1, none⟩ (.bool false)).setCell ⟨va.heap.size, 2, none⟩ (.int .i64 (m + 1))).setCell ⟨va.heap.size, 3, none⟩ (.int .i64 200)) (va.heap.size) 76 #[.int .i64 S2, .bool false, .int .i64 (m + 1), .int .i64 200] := (((hzc.out.1.set_ 0 (.int .i64 S2)).set_ 1 (.bool false)).set_ 2 (.int .i64 (m + 1))).set_ 3 (.int .i64 200)
          clear z0 z1 z2 z3 u0 u1 u2 u3 hzc j0 j1 j2 j3 c0 c1 c2 c3
          generalize ((((vc.setCell ⟨va.heap.size, 0, none⟩ (.int .i64 S2)).setCell ⟨va.heap.size, 1, none⟩ (.bool false)).setCell ⟨va.heap.size, 2, none⟩ (.int .i64 (m + 1))).setCell ⟨va.heap.size, 3, none⟩ (.int .i64 200)) = W6 at hX kN ⊢
          generalize hG : va.heap.size = G at kN ⊢
          clear hG
          have kA := H7.out.1.below hX H7.out.1.lt
          have rE := (H7.out.2.1.below hX).more hX.size
          have hb := H7.out.2.2.trans (hX.mono H7.out.2.2.size)
          have v0 : W6.cell? ⟨G, 0, none⟩ = some (.int .i64 S2) := kN.cell 0
          have v2 : W6.cell? ⟨G, 2, none⟩ = some (.int .i64 (m + 1)) := kN.cell 2
          have y2 : W6.cell? ⟨G9, 2, none⟩ = some (.int .i64 m) := kA.cell 2
          have H8 := Lib.hid (And.intro rE hb)
          clear kA rE hb kN hX n1 n3 nA
          go_wp2_with fail
          go_loop [24, 25] (fun av iv => ∃ (r : Nat) (T : Bool) (ri : Int), av = .bool T ∧ iv = .int .i64 ri ∧ ri = (r : Int) - 1 ∧ r ≤ j ∧ Hid ((T || askF (es.take r)) = askF (es.take j))) (fun _ iv => (intOf iv + 1).toNat)
          case atStart => exact ⟨j, false, _, rfl, rfl, by omega, by omega, hide (by simp)⟩
          case round =>
            obtain ⟨r, T, ri, rfl, rfl, hri, hr, HT⟩ := hrel
            have fin : askF (es.take j) = T → Hid (T = a) := fun h => hide (by rw [← h]; exact HS3.out.2.1.symm)
            cases r with
            | zero =>
              obtain rfl : ri = -1 := by omega
              have hTa := fin (by rw [← HT.out]; simp [askF])
              obtain rfl := hTa.out
              have hS3 := HS3.out.1
              have hmb := HS3.out.2.2.1
              have hmb1 := hmb.1
              have hmb2 := hmb.2
              clear fin HT hmb hri
              cases T <;> cases cl
              all_goals (
                go_wp2_with fail
                go_ret
                exact ⟨rfl, H8.out.2⟩)
            | succ r =>
              obtain rfl : ri = (r : Int) := by omega
              have hlt : r < es.length := by omega
              obtain ⟨b, o, rfl, _, hc⟩ := H8.out.1.ev (by omega)
              obtain ⟨d0, d1, d2⟩ := hc r hlt
              have hsn : askF (es.take (r + 1)) = if (es[r]).1 = 3 then false else askF (es.take r) || ((es[r]).1 == 4 || (es[r]).2.2) := by
                rw [List.take_succ_eq_append_getElem hlt, askF_snoc]
              obtain ⟨⟨k, cd, cb⟩, hev⟩ : ∃ ev, es[r] = ev := ⟨_, rfl⟩
              rw [hev] at d0 d1 d2 hsn
              simp only at hsn d0 d1 d2
              have i4 : (0 : Int) ≤ (r : Int) := by omega
              have i5 : (r : Int) < (es.length : Int) := by omega
              by_cases hk : k = 3
              · subst hk
                rw [if_pos rfl] at hsn
                have hTa := fin (by rw [← HT.out, hsn]; simp)
                obtain rfl := hTa.out
                have hS3 := HS3.out.1
                have hmb := HS3.out.2.2.1
                have hmb1 := hmb.1
                have hmb2 := hmb.2
                clear fin HT hmb hsn hri hev hc
                cases T <;> cases cl
                all_goals (
                  go_wp2_with fail
                  go_ret
                  exact ⟨rfl, H8.out.2⟩)
              · have t3 : (k != 3) = true := bneT hk
                rw [if_neg hk] at hsn
                have HT2 : Hid (((T || (k == 4 || cb)) || askF (es.take r)) = askF (es.take j)) := hide (by rw [← HT.out, hsn]; cases T <;> cases (k == 4) <;> cases cb <;> cases askF (es.take r) <;> rfl)
                clear fin HT hsn hri hev hc
                cases T with
                | true =>
                  go_wp2_with fail
                  exact ⟨⟨r, true, _, rfl, rfl, by omega, by omega, HT2⟩, by simp [intOf] <;> omega⟩
                | false =>
                  by_cases hk4 : k = 4
                  · subst hk4
                    go_wp2_with fail
                    exact ⟨⟨r, true, _, rfl, rfl, by omega, by omega, HT2⟩, by simp [intOf] <;> omega⟩
                  · have t4 : (k == 4) = false := beqF hk4
                    rw [t4] at HT2
                    go_wp2_with fail
                    exact ⟨⟨r, cb, _, rfl, rfl, by omega, by omega, HT2⟩, by simp [intOf] <;> omega⟩
        · have hX := (((hvc.out.setCell (p := ⟨w7.heap.size, 0, none⟩) hzc.out.2 (.int .i64 S2)).setCell (p := ⟨w7.heap.size, 1, none⟩) hzc.out.2 (.bool false)).setCell (p := ⟨w7.heap.size, 2, none⟩) hzc.out.2 (.int .i64 (m + 1))).setCell (p := ⟨w7.heap.size, 3, none⟩) hzc.out.2 (.int .i64 200)
          have kN : Blk ((((vc.setCell ⟨w7.heap.size, 0, none⟩ (.int .i64 S2)).setCell ⟨w7.heap.size, 1, none⟩ (.bool false)).setCell ⟨w7.heap.size, 2, none⟩ (.int .i64 (m + 1))).setCell ⟨w7.heap.size, 3, none⟩ (.int .i64 200)) (w7.heap.size) 76 #[.int .i64 S2, .bool false, .int .i64 (m + 1), .int .i64 200] := (((hzc.out.1.set_ 0 (.int .i64 S2)).set_ 1 (.bool false)).set_ 2 (.int .i64 (m + 1))).set_ 3 (.int .i64 200)
          clear z0 z1 z2 z3 u0 u1 u2 u3 hzc j0 j1 j2 j3 c0 c1 c2 c3
          generalize ((((vc.setCell ⟨w7.heap.size, 0, none⟩ (.int .i64 S2)).setCell ⟨w7.heap.size, 1, none⟩ (.bool false)).setCell ⟨w7.heap.size, 2, none⟩ (.int .i64 (m + 1))).setCell ⟨w7.heap.size, 3, none⟩ (.int .i64 200)) = W6 at hX kN ⊢
          generalize hG : w7.heap.size = G at kN ⊢
          clear hG
          have kA := H7.out.1.below hX H7.out.1.lt
          have rE := (H7.out.2.1.below hX).more hX.size
          have hb := H7.out.2.2.trans (hX.mono H7.out.2.2.size)
          have v0 : W6.cell? ⟨G, 0, none⟩ = some (.int .i64 S2) := kN.cell 0
          have v2 : W6.cell? ⟨G, 2, none⟩ = some (.int .i64 (m + 1)) := kN.cell 2
          have y2 : W6.cell? ⟨G9, 2, none⟩ = some (.int .i64 m) := kA.cell 2
          have H8 := Lib.hid (And.intro rE hb)
          clear kA rE hb kN hX n1 n3 nA
          go_wp2_with fail
          go_loop [24, 25] (fun av iv => ∃ (r : Nat) (T : Bool) (ri : Int), av = .bool T ∧ iv = .int .i64 ri ∧ ri = (r : Int) - 1 ∧ r ≤ j ∧ Hid ((T || askF (es.take r)) = askF (es.take j))) (fun _ iv => (intOf iv + 1).toNat)
          case atStart => exact ⟨j, false, _, rfl, rfl, by omega, by omega, hide (by simp)⟩
          case round =>
            obtain ⟨r, T, ri, rfl, rfl, hri, hr, HT⟩ := hrel
            have fin : askF (es.take j) = T → Hid (T = a) := fun h => hide (by rw [← h]; exact HS3.out.2.1.symm)
            cases r with
            | zero =>
              obtain rfl : ri = -1 := by omega
              have hTa := fin (by rw [← HT.out]; simp [askF])
              obtain rfl := hTa.out
              have hS3 := HS3.out.1
              have hmb := HS3.out.2.2.1
              have hmb1 := hmb.1
              have hmb2 := hmb.2
              clear fin HT hmb hri
              cases T <;> cases cl
              all_goals (
                go_wp2_with fail
                go_ret
                exact ⟨rfl, H8.out.2⟩)
            | succ r =>
              obtain rfl : ri = (r : Int) := by omega
              have hlt : r < es.length := by omega
              obtain ⟨b, o, rfl, _, hc⟩ := H8.out.1.ev (by omega)
              obtain ⟨d0, d1, d2⟩ := hc r hlt
              have hsn : askF (es.take (r + 1)) = if (es[r]).1 = 3 then false else askF (es.take r) || ((es[r]).1 == 4 || (es[r]).2.2) := by
                rw [List.take_succ_eq_append_getElem hlt, askF_snoc]
              obtain ⟨⟨k, cd, cb⟩, hev⟩ : ∃ ev, es[r] = ev := ⟨_, rfl⟩
              rw [hev] at d0 d1 d2 hsn
              simp only at hsn d0 d1 d2
              have i4 : (0 : Int) ≤ (r : Int) := by omega
              have i5 : (r : Int) < (es.length : Int) := by omega
              by_cases hk : k = 3
              · subst hk
                rw [if_pos rfl] at hsn
                have hTa := fin (by rw [← HT.out, hsn]; simp)
                obtain rfl := hTa.out
                have hS3 := HS3.out.1
                have hmb := HS3.out.2.2.1
                have hmb1 := hmb.1
                have hmb2 := hmb.2
                clear fin HT hmb hsn hri hev hc
                cases T <;> cases cl
                all_goals (
                  go_wp2_with fail
                  go_ret
                  exact ⟨rfl, H8.out.2⟩)
              · have t3 : (k != 3) = true := bneT hk
                rw [if_neg hk] at hsn
                have HT2 : Hid (((T || (k == 4 || cb)) || askF (es.take r)) = askF (es.take j)) := hide (by rw [← HT.out, hsn]; cases T <;> cases (k == 4) <;> cases cb <;> cases askF (es.take r) <;> rfl)
                clear fin HT hsn hri hev hc
                cases T with
                | true =>
                  go_wp2_with fail
                  exact ⟨⟨r, true, _, rfl, rfl, by omega, by omega, HT2⟩, by simp [intOf] <;> omega⟩
                | false =>
                  by_cases hk4 : k = 4
                  · subst hk4
                    go_wp2_with fail
                    exact ⟨⟨r, true, _, rfl, rfl, by omega, by omega, HT2⟩, by simp [intOf] <;> omega⟩
                  · have t4 : (k == 4) = false := beqF hk4
                    rw [t4] at HT2
                    go_wp2_with fail
                    exact ⟨⟨r, cb, _, rfl, rfl, by omega, by omega, HT2⟩, by simp [intOf] <;> omega⟩
      · have t1 : (s != 2) = true := bneT hs
        go_wp2_with fail
        go_ret
        exact ⟨rfl, hb⟩
end Go.Proofs.YtepemdmjbfoiaaaDoor
