/-
  Lists of events made of numbers (waypostlaw13.made); what Run does with them, in plain words. What an event that is not refused does; Run of a new connection over the first events of a list, as a step of a law. What a list of numbers that came in as an argument gives: its length, and that it reads as numbers. Lemmas of no program. PersistAnswers, the law.
-/
import Derived.Test.YtepemdmjbfoiaaaDoorPe11
import Derived.Test.YtepemdmjbfoiaaaDoorKt2
import Derived.Test.YtepemdmjbfoiaaaDoorLPeKnown
import Derived.Test.YtepemdmjbfoiaaaDoorBase
import Derived.ChangeSlices
import Derived.OpenShut
import Derived.Deep.RegionHeld
namespace Go.Proofs.YtepemdmjbfoiaaaDoor

section
open Go.RowKit

theorem run_facts (l : Lk) (es : List Ev) : ∃ n E, n ≤ es.length ∧ runT l es = (aft l (es.take n), n, E) ∧ okT l (es.take n) ∧ (E = 0 ↔ n = es.length) := by
  induction es generalizing l with
  | nil => exact ⟨0, 0, Nat.le_refl _, rfl, trivial, by simp⟩
  | cons e es ih =>
    by_cases h : stE l e = 0
    · obtain ⟨n, E, h1, h2, h3, h4⟩ := ih (stL l e)
      refine ⟨n + 1, E, by simp; omega, ?_, ⟨h, h3⟩, by simp; exact h4⟩
      rw [runT, if_neg (by simp [h]), h2]
      rfl
    · refine ⟨0, stE l e, Nat.zero_le _, ?_, trivial, by simp [h]⟩
      rw [runT, if_pos h]
      rfl
theorem init_ok : ckL init = 0 := by decide
theorem runV_init (es : List Ev) : runV init es = runT init es := by
  unfold runV
  rw [if_neg (by rw [init_ok]; simp)]

theorem app_evt {base : Nat} {W : World} {v : Value} {xs : List Ev} (ho : W.ownsRow base 81 3 v xs.length (evsC xs)) (hb : base ≤ W.heap.size) (hl : xs.length ≤ 1000000) (y : Ev) :
    ∃ v' w5, (Builtin.append_ #[72, 72] 72 #[v, .slice (some ⟨W.heap.size, 0, none⟩) 1 1]).run Tryd.prog (W.alloc (.cells #[.int .i64 y.1, .int .i64 y.2.1, .bool y.2.2] 81)) = .ok v' w5 ∧ w5.ownsRow base 81 3 v' (xs ++ [y]).length (evsC (xs ++ [y])) ∧
      Below base W w5 := by
  have infoE : (Tryd.prog.info? 81).map (fun i => (i.zero, i.size, i.bytes)) = some (some (.agg #[.int .i64 0, .int .i64 0, .bool false]), 3, 24) := by kernel_rfl
  obtain ⟨i0, hi, hz0, hz1, hz2⟩ := info_parts infoE
  obtain ⟨v', w5, hrun, hown, hg, hlt, _⟩ := app_one (P := Tryd.prog) 72 72 81 i0 (.agg #[.int .i64 0, .int .i64 0, .bool false]) 3 24 Tryd.underlying72 hi hz0 hz1 hz2 rfl (by decide) base W v _ _ ho #[.int .i64 y.1, .int .i64 y.2.1, .bool y.2.2] rfl (by intro u hu; simp at hu; rcases hu with rfl | rfl | rfl <;> rfl) 81 (by unfold maxLen; omega) (by omega) hb
  refine ⟨v', w5, hrun, ?_, (Below.refl base W).grown hg hb (own_ge ho)⟩
  rw [evsC_app, List.length_append]; exact hown

set_option maxRecDepth 100000 in
set_option maxHeartbeats 8000000 in
theorem made_any (A : Option Addr) (n c : Nat) (zs : List Int) (w : World) (hr : Reads w w.heap.size 1 A n (zs.map (Value.int .i64))) (hn : n ≤ 9223372036854775807) (hw : ∀ z ∈ zs, -9223372036854775808 ≤ z ∧ z ≤ 9223372036854775807) :
    Calls Tryd.prog 75 #[.slice A n c] w fun e w' => ∃ (B : Option Addr) (d : Nat) (es : List Ev) (j : Nat), e = .returned (.tuple #[.slice B es.length d, .int .i64 j, .bool true]) ∧ es.length ≤ d ∧ j ≤ es.length ∧ es.length ≤ 40 ∧ okT init (es.take j) ∧ Reads w' w'.heap.size 3 B es.length (evsC es) ∧ Below w.heap.size w w' := by
  have hl : zs.length = n := by have := hr.1; simpa using this
  subst hl
  have HR := Lib.hid hr
  have HW := Lib.hid hw
  have CE := Lib.hid event_any
  have CN := Lib.hid pNew
  clear hr hw
  go_enter Tryd.func75, Tryd.ntmps75
  go_wp2_with fail
  go_loopw [5, 6] (fun o i wr => ∃ (k : Nat) (es : List Ev), i = .int .i64 k ∧ k ≤ zs.length ∧ k ≤ 40 ∧ es.length ≤ k ∧ Hid (wr.ownsRow w.heap.size 81 3 o es.length (evsC es) ∧ Below w.heap.size w wr)) (fun _ i _ => 40 - (intOf i).toNat)
  case atStart => exact ⟨0, [], rfl, by omega, by omega, by simp, hide ⟨World.ownsRow_nil _ _ _ _, Below.refl _ _⟩⟩
  case round =>
    obtain ⟨k, es, rfl, hk, hk40, hes, HO⟩ := hrel
    rename World => W0
    by_cases hlt : k < zs.length ∧ k < 40
    · obtain ⟨hlt, h40⟩ := hlt
      obtain ⟨b, o, rfl, hbl, hc⟩ := HR.out.lit (by omega)
      have c0 := (HO.out.2.cell (p := ⟨b, o + k, none⟩) hbl).trans (hc k (.int .i64 zs[k]) (by simp [hlt]))
      obtain ⟨z, hz⟩ : ∃ z, zs[k] = z := ⟨_, rfl⟩
      have hzb := HW.out zs[k] (List.getElem_mem hlt)
      rw [hz] at c0 hzb
      have CM := Lib.hid (Mod_any z 1048576 W0 hzb.1 hzb.2 (by omega) (by omega))
      have i0 : (0 : Int) ≤ (k : Int) := by omega
      have i1 : (k : Int) < (zs.length : Int) := by omega
      have i2 : (k : Int) < 40 := by omega
      clear hc hz hzb
      have CX : Hid (∀ (k c : Int) (b : Bool), Calls Tryd.prog 80 #[.int .i64 k, .int .i64 c, .bool b] W0 fun e w1 => e = .returned (.agg #[.int .i64 k, .int .i64 c, .bool b]) ∧ ∃ v' w5, Hid ((Builtin.append_ #[72, 72] 72 #[u5, .slice (some ⟨w1.heap.size, 0, none⟩) 1 1]).run Tryd.prog (w1.alloc (.cells #[.int .i64 k, .int .i64 c, .bool b] 81)) = .ok v' w5) ∧ Hid (w5.ownsRow w.heap.size 81 3 v' (es ++ [(k, c, b)]).length (evsC (es ++ [(k, c, b)])) ∧ Below w.heap.size w w5)) := hide fun k c b => (CE.out k c b W0).mono fun e w1 ⟨he, g1⟩ => by
        obtain ⟨v', w5, hrun, hown, hb5⟩ := app_evt (own_below HO.out.1 g1) (Nat.le_trans HO.out.2.size g1.size) (by omega) (k, c, b)
        exact ⟨he, v', w5, hide hrun, hide ⟨hown, (HO.out.2.trans (g1.mono HO.out.2.size)).trans hb5⟩⟩
      go_wp2_with fail
      (with_reducible refine (CM.out).mono ?_); rintro e w1 ⟨r, hr0, hr1, rfl, rfl⟩
      go_wp2_with fail
      all_goals first
        | ((with_reducible refine (CX.out _ _ _).mono ?_); rintro e w2 ⟨rfl, v', w5, HRUN, HN⟩
           go_wp2_with (at_builtin; refine wpList_append_run HRUN.out rfl _ _ rfl rfl rfl rfl ?_)
           go_roundw
           case rel => exact ⟨k + 1, _, by go_num, by omega, by omega, by simp; omega, HN⟩
           case measure => simp [intOf]; omega)
        | (go_roundw
           case rel => exact ⟨k + 1, es, by go_num, by omega, by omega, by omega, HO⟩
           case measure => simp [intOf]; omega)
    · have hd : zs.length ≤ k ∨ (k < zs.length ∧ 40 ≤ k) := by omega
      obtain ⟨hO, hb⟩ := HO.out
      obtain ⟨A', cap, rfl⟩ := own_slice hO
      have hcap : es.length ≤ cap := own_capA' hO
      obtain ⟨n, E, f1, f2, f3, f4⟩ := run_facts init es
      have cR := fun w hr => pRun init A' es.length cap es w hr (by omega)
      rw [runV_init, f2] at cR
      obtain ⟨⟨s2, a2, m2, d2⟩, hZ⟩ : ∃ Z, aft init (es.take n) = Z := ⟨_, rfl⟩
      rw [hZ] at cR
      unfold lkV linkV init at cR
      simp only at cR
      have CR := Lib.hid cR
      have HQ := Lib.hid (And.intro (Reads.of_own hO) (And.intro hb (And.intro hcap (And.intro f1 (And.intro f3 f4)))))
      have hes40 : es.length ≤ 40 := by omega
      have e1 : (0 : Int) ≤ (n : Int) := by omega
      have e2 : (n : Int) ≤ (es.length : Int) := by omega
      have hc : (((n : Int) == (es.length : Int)) = true ∧ ((E : Int) == 0) = true) ∨ (((n : Int) == (es.length : Int)) = false ∧ ((E : Int) == 0) = false) := by
        by_cases h : E = 0
        · left
          have := f4.1 h
          exact ⟨beqT (by omega), beqT (by omega)⟩
        · right
          have : n ≠ es.length := fun h2 => h (f4.2 h2)
          exact ⟨beqF (by omega), beqF (by omega)⟩
      clear cR hO hb hcap f1 f2 f3 f4 hZ HO hk hk40
      clear hlt
      rcases hd with hd | ⟨hd, hd'⟩ <;> rcases hc with ⟨t1, t2⟩ | ⟨t1, t2⟩
      all_goals (
        go_wp2_with fail
        (with_reducible refine (CN.out _).mono ?_); rintro e w1 ⟨rfl, g1⟩
        have h1 := HQ.out.2.1.trans (g1.mono HQ.out.2.1.size)
        have r1 := (HQ.out.1.below g1).more g1.size
        have H1 := Lib.hid (And.intro h1 r1)
        clear h1 r1 g1
        go_wp2_with fail
        (with_reducible refine (CR.out _ H1.out.2).mono ?_); rintro e w2 ⟨rfl, g2⟩
        have g2 := g2.alloc g2.size (.cells #[.int .i64 s2, .bool a2, .int .i64 m2, .int .i64 d2] 76)
        have H2 := Lib.hid (And.intro (H1.out.1.trans (g2.mono H1.out.1.size)) ((H1.out.2.below g2).more g2.size))
        clear g2
        go_wp2_with fail
        go_ret3
        exact ⟨A', cap, es, n, rfl, HQ.out.2.2.1, HQ.out.2.2.2.1, hes40, HQ.out.2.2.2.2.1, H2.out.2, H2.out.1⟩)

/-- the first events of a list -/
theorem Reads.evtake {w : World} {B n : Nat} {A : Option Addr} {l : List Ev} (h : Reads w B 3 A n (evsC l)) (j : Nat) (hj : j ≤ l.length) : Reads w B 3 A j (evsC (l.take j)) := by
  refine ⟨by rw [evsC_len]; simp; omega, fun h0 => ?_⟩
  have hn := h.elen
  obtain ⟨a, e, hb, hc⟩ := h.2 (by omega)
  refine ⟨a, e, hb, fun i u hu => hc i u ?_⟩
  have : evsC l = evsC (l.take j) ++ evsC (l.drop j) := by rw [← evsC_app, List.take_append_drop]
  rw [this, List.getElem?_append_left (List.getElem?_eq_some_iff.1 hu).1]
  exact hu
end

section
open Go.RowKit

theorem step_facts {l : Lk} {e : Ev} (h : stE l e = 0) : ckL l = 0 ∧ fitL e.1 e.2.1 e.2.2 = 0 ∧ refB l.1 e.1 = false ∧ l.2.2.1 ≠ 1000000 ∧ stL l e = aftL l.1 l.2.1 l.2.2.1 l.2.2.2 e.1 e.2.1 e.2.2 := by
  have hl : stL l e = aftL l.1 l.2.1 l.2.2.1 l.2.2.2 e.1 e.2.1 e.2.2 := by
    unfold stL stepL
    exact if_neg (by intro h2; exact h2 h)
  refine ⟨?_, ?_, ?_, ?_, hl⟩
  all_goals (
    unfold stE stepE at h
    try unfold ckL
    split at h
    · omega
    · split at h
      · omega
      · split at h
        · omega
        · simp_all)
theorem step_cases {l : Lk} {e : Ev} (h : stE l e = 0) :
    (e.1 = 1 ∧ l.1 = 1 ∧ stL l e = (2, e.2.2, l.2.2.1, l.2.2.2)) ∨ (e.1 = 2 ∧ l.1 = 1 ∧ stL l e = (3, false, l.2.2.1 + 1, e.2.1)) ∨
    (e.1 = 3 ∧ l.1 = 2 ∧ stL l e = ((if l.2.1 = true ∨ e.2.2 = true ∨ l.2.2.1 + 1 = 1000000 then 3 else 1), false, l.2.2.1 + 1, e.2.1)) ∨
    (e.1 = 4 ∧ l.1 = 1 ∧ stL l e = (3, l.2.1, l.2.2.1, l.2.2.2)) ∨ (e.1 = 4 ∧ l.1 = 2 ∧ stL l e = (2, true, l.2.2.1, l.2.2.2)) := by
  obtain ⟨hc, hf, hb, hn, hl⟩ := step_facts h
  obtain ⟨s, a, n, c⟩ := l
  obtain ⟨k, cd, cl⟩ := e
  have hs := chkL_s hc
  have hk := fitL_k hf
  simp only at *
  rw [hl]
  unfold refB at hb
  unfold aftL
  have h1 : s = 1 ∨ s = 2 ∨ s = 3 := by omega
  have h2 : k = 1 ∨ k = 2 ∨ k = 3 ∨ k = 4 := by omega
  rcases h1 with rfl | rfl | rfl <;> rcases h2 with rfl | rfl | rfl | rfl <;> simp_all
theorem fitL_cd {k cd : Int} {cl : Bool} (h : fitL k cd cl = 0) : (k = 2 → 400 ≤ cd ∧ cd ≤ 599) ∧ (k = 3 → 100 ≤ cd ∧ cd ≤ 599) := by
  unfold fitL at h
  repeat' split at h
  all_goals omega
theorem chkL_c {s n c : Int} {a : Bool} (h : chkL s a n c = 0) : (n = 0 → c = 0) ∧ (0 < n → 100 ≤ c ∧ c ≤ 599) := by
  unfold chkL at h
  repeat' split at h
  all_goals omega
theorem chkL_mk {s n c : Int} {a : Bool} (h1 : 1 ≤ s ∧ s ≤ 3) (h2 : 0 ≤ n ∧ n ≤ 1000000) (h3 : (n = 0 → c = 0) ∧ (0 < n → 100 ≤ c ∧ c ≤ 599)) (h4 : s ≠ 2 → a = false) : chkL s a n c = 0 := by
  unfold chkL
  rw [if_neg (by omega), if_neg (by omega), if_neg (by omega), if_neg]
  rintro ⟨ha, hs⟩
  rw [h4 hs] at ha
  cases ha
theorem valid_step {l : Lk} {e : Ev} (h : stE l e = 0) : ckL (stL l e) = 0 := by
  obtain ⟨hc, hf, hb, hn, hl⟩ := step_facts h
  obtain ⟨s, a, n, c⟩ := l
  obtain ⟨k, cd, cl⟩ := e
  have hn2 := chkL_n hc
  have hs := chkL_s hc
  have hcc := chkL_c hc
  have hcd := fitL_cd hf
  simp only at hn hn2 hs hcc hcd
  rcases step_cases h with ⟨h1, h2, h3⟩ | ⟨h1, h2, h3⟩ | ⟨h1, h2, h3⟩ | ⟨h1, h2, h3⟩ | ⟨h1, h2, h3⟩
  · rw [h3]; simp only at h1 h2; exact chkL_mk (by omega) hn2 hcc (by omega)
  · rw [h3]; simp only at h1 h2
    show chkL 3 false (n + 1) cd = 0
    exact chkL_mk (by omega) (by omega) (by have := hcd.1 h1; omega) (fun _ => rfl)
  · rw [h3]; simp only at h1 h2
    show chkL (if a = true ∨ cl = true ∨ n + 1 = 1000000 then 3 else 1) false (n + 1) cd = 0
    refine chkL_mk ?_ (by omega) (by have := hcd.2 h1; omega) (fun _ => rfl)
    split <;> omega
  · rw [h3]; simp only at h1 h2; exact chkL_mk (by omega) hn2 hcc (fun _ => hs.2 (by omega))
  · rw [h3]; simp only at h1 h2; exact chkL_mk (by omega) hn2 hcc (by omega)
theorem okT_take {l : Lk} {es : List Ev} {j k : Nat} (h : okT l (es.take j)) (hk : k < j) (hj : j ≤ es.length) : okT l (es.take k) ∧ stE (aft l (es.take k)) (es[k]'(by omega)) = 0 := by
  have hk2 : k < (es.take j).length := by simp; omega
  have e1 : es.take j = (es.take k ++ [es[k]'(by omega)]) ++ (es.take j).drop (k + 1) := by
    have h1 : es.take (k + 1) = es.take k ++ [es[k]'(by omega)] := List.take_succ_eq_append_getElem (by omega)
    rw [← h1, show es.take (k + 1) = (es.take j).take (k + 1) by rw [List.take_take, Nat.min_eq_left (by omega)], List.take_append_drop]
  have pre : ∀ (l : Lk) (xs ys : List Ev), okT l (xs ++ ys) → okT l xs := by
    intro l xs ys
    induction xs generalizing l with
    | nil => intro _; trivial
    | cons x xs ih => intro h; exact ⟨h.1, ih _ h.2⟩
  rw [e1] at h
  exact (okT_snoc _ _ _).1 (pre _ _ _ h)
theorem valid_aft (es : List Ev) (h : okT init es) : ckL (aft init es) = 0 := by
  have gen : ∀ (l : Lk) (es : List Ev), ckL l = 0 → okT l es → ckL (aft l es) = 0 := by
    intro l es
    induction es generalizing l with
    | nil => intro h _; exact h
    | cons e es ih => intro _ h; exact ih _ (valid_step h.1) h.2
  exact gen _ _ init_ok h
end

section
open Go.RowKit Go.WideShapes Go.ChangeShapes

section
variable {H : Type} {enc : TypeId × Value → H}
theorem open_list {P : Program} {t e : TypeId} {k : IntKind} {W : World} {base : Nat} {v : Value} {d : DataW H} {p : List MemPlace} (ht : P.underlying t = some (.slice e)) (he : P.underlying e = some (.int k)) (hc : P.cellsOf e = 1)
    (hval : Value.okWide P W .any base t v) (h : DataW.Trod enc P W 0 (fun _ => true) true t v d p) :
    ∃ (A : Option Addr) (len c : Nat) (zs : List Int), v = .slice A len c ∧ len ≤ maxLen ∧ Reads W W.heap.size 1 A len (zs.map (Value.int k)) ∧ ∀ z ∈ zs, (Lit.int k z).wf = true := by
  obtain ⟨a1, len, cap, rfl⟩ := okWide_slice ht hval
  obtain ⟨fuel, hf⟩ := h
  rcases open_ints ht he hc hf with ⟨hcs, _⟩ | ⟨a, len', cap', zs, hcs, _, hl, hm, hz, _, hcell, hwz⟩
  · simp [Value.cells] at hcs
    obtain ⟨rfl, rfl, rfl⟩ := hcs
    exact ⟨none, 0, 0, [], rfl, Nat.zero_le _, Reads.none_, by simp⟩
  · simp [Value.cells] at hcs
    obtain ⟨rfl, rfl, rfl⟩ := hcs
    simp only [if_true] at hz
    refine ⟨some a, len, cap, zs.take len, rfl, by omega, ⟨by simp; omega, fun h0 => ⟨a, rfl, ?_, ?_⟩⟩, fun z hz => hwz z (List.mem_of_mem_take hz)⟩
    · have := World.block_lt_of_cell? _ _ (hcell 0 (by omega))
      rwa [block_of_add] at this
    · intro j u hu
      rw [List.getElem?_map] at hu
      cases e1 : (zs.take len)[j]? with
      | none => rw [e1] at hu; simp at hu
      | some z =>
        rw [e1] at hu
        simp only [Option.map_some, Option.some.injEq] at hu
        subst hu
        have hj : j < (zs.take len).length := (List.getElem?_eq_some_iff.1 e1).1
        have hjl : j < zs.length := by simp at hj; omega
        have h1 := hcell j hjl
        rw [List.getElem?_take] at e1
        have h2 : zs[j]? = some z := by
          by_cases hlt : j < len
          · rwa [if_pos hlt] at e1
          · rw [if_neg hlt] at e1; simp at e1
        rw [h1, List.getD_eq_getElem?_getD, h2]
        rfl
end
end

section
open Go.RowKit

def Zs (w : World) (g : Nat) : Prop := (w.cell? ⟨g, 0, none⟩ = some (.int .i64 0) ∧ w.cell? ⟨g, 1, none⟩ = some (.bool false) ∧ w.cell? ⟨g, 2, none⟩ = some (.int .i64 0) ∧ w.cell? ⟨g, 3, none⟩ = some (.int .i64 0)) ∧ w.frozen? ⟨g, 0, none⟩ = false ∧ w.frozen? ⟨g, 1, none⟩ = false ∧ w.frozen? ⟨g, 2, none⟩ = false ∧ w.frozen? ⟨g, 3, none⟩ = false
theorem zs_of {w : World} {g : Nat} (h : Blk w g 76 #[.int .i64 0, .bool false, .int .i64 0, .int .i64 0]) : Zs w g := ⟨⟨h.cell 0, h.cell 1, h.cell 2, h.cell 3⟩, h.frozen 0, h.frozen 1, h.frozen 2, h.frozen 3⟩

set_option maxRecDepth 100000 in
set_option maxHeartbeats 16000000 in
theorem PersistAnswers_true (A : Option Addr) (n c : Nat) (zs : List Int) (w : World) (hr : Reads w w.heap.size 1 A n (zs.map (Value.int .i64))) (hn : n ≤ 9223372036854775807) (hw : ∀ z ∈ zs, -9223372036854775808 ≤ z ∧ z ≤ 9223372036854775807) :
    Calls Tryd.prog 15 #[.slice A n c] w fun e w' => e = .returned (.bool true) ∧ Below w.heap.size w w' := by
  have CK := Lib.hid PersistKnown_true
  have CM := Lib.hid (fun w hr => made_any A n c zs w hr hn hw)
  have CN := Lib.hid pNew
  have HR := Lib.hid hr
  clear hr hw
  go_enter Tryd.func15, Tryd.ntmps15
  go_wp2_with fail
  (with_reducible refine (CK.out _).mono ?_); rintro e w1 ⟨rfl, g1⟩
  go_wp2_with fail
  (with_reducible refine (CM.out _ ((HR.out.below g1).more g1.size)).mono ?_); rintro e w2 ⟨B, d, es, j, rfl, hcap, hj, h40, hok, rE, g2⟩
  have h2 := g1.trans (g2.mono g1.size)
  have rJ := rE.evtake j hj
  have cR := fun w hr => pRun init B j d (es.take j) w hr (by omega)
  rw [runV_init, runT_all _ _ hok, List.length_take, Nat.min_eq_left hj] at cR
  obtain ⟨⟨s, a, m, q⟩, hZ⟩ : ∃ Z, aft init (es.take j) = Z := ⟨_, rfl⟩
  rw [hZ] at cR
  unfold lkV linkV init at cR
  simp only at cR
  have i0 : (0 : Int) ≤ (j : Int) := by omega
  have i1 : (j : Int) ≤ (d : Int) := by omega
  have i2 : (j : Int) ≤ (es.length : Int) := by omega
  have RJ : Hid (∀ X, Below w2.heap.size w2 X → Reads X X.heap.size 3 B j (evsC (es.take j))) := hide fun X hX => (rJ.below hX).more hX.size
  have HB := Lib.hid (And.intro h2 (And.intro rE (And.intro hok (And.intro hj (And.intro h40 hZ)))))
  have KN1 : Hid (∀ X, Hid (Below w2.heap.size w2 X) → Calls Tryd.prog 77 #[] X fun e w' => e = .returned (.agg #[.int .i64 1, .bool false, .int .i64 0, .int .i64 0]) ∧ Hid (Below w2.heap.size w2 w')) := hide fun X hX => (CN.out X).mono fun e w' ⟨he, hb⟩ => ⟨he, hide (hX.out.trans (hb.mono hX.out.size))⟩
  have KN2 : Hid (∀ X g, Hid (Below w2.heap.size w2 X) → Hid (Blk X g 76 #[.int .i64 0, .bool false, .int .i64 0, .int .i64 0] ∧ w2.heap.size ≤ g) → Calls Tryd.prog 77 #[] X fun e w' => e = .returned (.agg #[.int .i64 1, .bool false, .int .i64 0, .int .i64 0]) ∧ Hid (Below w2.heap.size w2 w') ∧ Hid (Blk w' g 76 #[.int .i64 0, .bool false, .int .i64 0, .int .i64 0] ∧ w2.heap.size ≤ g)) := hide fun X g hX hg => (CN.out X).mono fun e w' ⟨he, hb⟩ => ⟨he, hide (hX.out.trans (hb.mono hX.out.size)), hide ⟨hg.out.1.below hb hg.out.1.lt, hg.out.2⟩⟩
  have KR1 : Hid (∀ X, Hid (Below w2.heap.size w2 X) → Calls Tryd.prog 76 #[.agg #[.int .i64 1, .bool false, .int .i64 0, .int .i64 0], .slice B j d] X fun e w' => e = .returned (.tuple #[.agg #[.int .i64 s, .bool a, .int .i64 m, .int .i64 q], .int .i64 j, .int .i64 0]) ∧ Hid (Below w2.heap.size w2 w')) := hide fun X hX => (cR X (RJ.out X hX.out)).mono fun e w' ⟨he, hb⟩ => ⟨he, hide (hX.out.trans (hb.mono hX.out.size))⟩
  have KR2 : Hid (∀ X g, Hid (Below w2.heap.size w2 X) → Hid (Blk X g 76 #[.int .i64 0, .bool false, .int .i64 0, .int .i64 0] ∧ w2.heap.size ≤ g) → Calls Tryd.prog 76 #[.agg #[.int .i64 1, .bool false, .int .i64 0, .int .i64 0], .slice B j d] X fun e w' => e = .returned (.tuple #[.agg #[.int .i64 s, .bool a, .int .i64 m, .int .i64 q], .int .i64 j, .int .i64 0]) ∧ Hid (Below w2.heap.size w2 w') ∧ Hid (Blk w' g 76 #[.int .i64 0, .bool false, .int .i64 0, .int .i64 0] ∧ w2.heap.size ≤ g) ∧ ((w'.cell? ⟨g, 0, none⟩ = some (.int .i64 0) ∧ w'.cell? ⟨g, 1, none⟩ = some (.bool false) ∧ w'.cell? ⟨g, 2, none⟩ = some (.int .i64 0) ∧ w'.cell? ⟨g, 3, none⟩ = some (.int .i64 0)) ∧ w'.frozen? ⟨g, 0, none⟩ = false ∧ w'.frozen? ⟨g, 1, none⟩ = false ∧ w'.frozen? ⟨g, 2, none⟩ = false ∧ w'.frozen? ⟨g, 3, none⟩ = false)) := hide fun X g hX hg => (cR X (RJ.out X hX.out)).mono fun e w' ⟨he, hb⟩ => ⟨he, hide (hX.out.trans (hb.mono hX.out.size)), hide ⟨hg.out.1.below hb hg.out.1.lt, hg.out.2⟩, zs_of (hg.out.1.below hb hg.out.1.lt)⟩
  have HD0 : Hid (Below w2.heap.size w2 w2.drew) := hide (Below.refl _ _).drew
  have HD1 : Hid (Below w2.heap.size w2 (w2.alloc (.cells #[.int .i64 0, .bool false, .int .i64 0, .int .i64 0] 76)).drew) := hide ((Below.refl _ _).alloc (Nat.le_refl _) _).drew
  have HZ1 : Hid (Blk (w2.alloc (.cells #[.int .i64 0, .bool false, .int .i64 0, .int .i64 0] 76)).drew w2.heap.size 76 #[.int .i64 0, .bool false, .int .i64 0, .int .i64 0] ∧ w2.heap.size ≤ w2.heap.size) := hide ⟨Blk.drew (Blk.new w2 _ _), Nat.le_refl _⟩
  have AL : ∀ X o, Hid (Below w2.heap.size w2 X) → Hid (Below w2.heap.size w2 (X.alloc o)) := fun X o h => hide (h.out.alloc h.out.size o)
  have BN : ∀ X, Hid (Below w2.heap.size w2 X) → Hid (Blk (X.alloc (.cells #[.int .i64 0, .bool false, .int .i64 0, .int .i64 0] 76)) X.heap.size 76 #[.int .i64 0, .bool false, .int .i64 0, .int .i64 0] ∧ w2.heap.size ≤ X.heap.size) := fun X h => hide ⟨Blk.new X _ _, h.out.size⟩
  clear g1 g2 h2 rE rJ cR hcap hj h40 hok hZ
  go_wp2_with fail
  go_region_held (fun w' => True) (go_keep)
    (first
      | (go_at_call 77; (with_reducible refine (KN2.out _ _ (by assumption) (by assumption)).mono ?_); rintro r vb ⟨rfl, hvb, hzb⟩)
      | (go_at_call 77; (with_reducible refine (KN1.out _ (by assumption)).mono ?_); rintro r va ⟨rfl, hva⟩)
      | (go_at_call 76; (with_reducible refine (KR2.out _ _ (by first | assumption | exact AL _ _ (by assumption)) (by first | assumption | exact BN _ (by assumption))).mono ?_); rintro r vc ⟨rfl, hvc, hzc, ⟨z0, z1, z2, z3⟩, u0, u1, u2, u3⟩)
      | (go_at_call 76; (with_reducible refine (KR1.out _ (by assumption)).mono ?_); rintro r vd ⟨rfl, hvd⟩))
  · have hX := hvd.out.alloc hvd.out.size (.cells #[.int .i64 s, .bool a, .int .i64 m, .int .i64 q] 76)
    have kN := Blk.new vd 76 #[.int .i64 s, .bool a, .int .i64 m, .int .i64 q]
    generalize vd.alloc (.cells #[.int .i64 s, .bool a, .int .i64 m, .int .i64 q] 76) = W6 at hX kN ⊢
    generalize vd.heap.size = G at kN ⊢
    have y0 : W6.cell? ⟨G, 0, none⟩ = some (.int .i64 s) := kN.cell 0
    have y2 : W6.cell? ⟨G, 2, none⟩ = some (.int .i64 m) := kN.cell 2
    have hb6 := HB.out.1.trans (hX.mono HB.out.1.size)
    have rE6 := (HB.out.2.1.below hX).more hX.size
    have H6 := Lib.hid (And.intro hb6 rE6)
    clear hX kN hb6 rE6
    go_wp2_with fail
    go_loop [10, 11, 12, 13] (fun du se ov i => ∃ (k : Nat) (D S : Int) (O : Bool), du = .int .i64 D ∧ se = .int .i64 S ∧ ov = .bool O ∧ i = .int .i64 k ∧ k ≤ j ∧ (0 ≤ D ∧ D ≤ 1) ∧ (0 ≤ S ∧ S ≤ 1000000) ∧ Hid (D = (if (aft init (es.take k)).1 = 2 then 1 else 0) ∧ S = (aft init (es.take k)).2.2.1 ∧ (O = true → (aft init (es.take k)).1 = 3))) (fun _ _ _ i => j - (intOf i).toNat)
    case atStart => exact ⟨0, 0, 0, false, rfl, rfl, rfl, rfl, by omega, by omega, by omega, hide ⟨by simp [aft, init], by simp [aft, init], by simp⟩⟩
    case round =>
      obtain ⟨k, D, S, O, rfl, rfl, rfl, rfl, hk, hD, hS, HT⟩ := hrel
      obtain ⟨h2, rE, hok, hj, h40, hZ⟩ := HB.out
      by_cases hlt : k < j
      · obtain ⟨b, o, rfl, _, hc⟩ := H6.out.2.ev (by omega)
        have c0 := (hc k (by omega)).1
        obtain ⟨ht1, ht2⟩ := okT_take hok hlt hj
        have hbd := chkL_n (valid_step ht2)
        have htk : aft init (es.take (k + 1)) = stL (aft init (es.take k)) (es[k]'(by omega)) := by rw [List.take_succ_eq_append_getElem (by omega), aft_snoc]
        have i4 : (0 : Int) ≤ (k : Int) := by omega
        have i5 : (k : Int) < (es.length : Int) := by omega
        have i6 : (k : Int) < (j : Int) := by omega
        obtain ⟨T, hT⟩ : ∃ T, aft init (es.take k) = T := ⟨_, rfl⟩
        obtain ⟨ev, hev⟩ : ∃ ev, es[k]'(by omega) = ev := ⟨_, rfl⟩
        have hT' := HT.out
        rw [hT] at hT' ht2 htk hbd
        rw [hev] at c0 ht2 htk hbd
        obtain ⟨hD1, hS1, hO1⟩ := hT'
        have hO : O = false := by
          cases O with
          | false => rfl
          | true =>
            have := hO1 rfl
            rcases step_cases ht2 with ⟨_, h, _⟩ | ⟨_, h, _⟩ | ⟨_, h, _⟩ | ⟨_, h, _⟩ | ⟨_, h, _⟩ <;> omega
        subst hO
        clear hc ht1 h2 rE hok hZ hT hev hO1
        rcases step_cases ht2 with ⟨q1, q2, q3⟩ | ⟨q1, q2, q3⟩ | ⟨q1, q2, q3⟩ | ⟨q1, q2, q3⟩ | ⟨q1, q2, q3⟩
        · rw [q1] at c0
          rw [q3] at htk hbd
          rw [q2] at hD1
          obtain rfl : D = 0 := by rw [hD1]; simp
          have HN := Lib.hid (And.intro htk (And.intro hS1 hbd))
          clear htk hS1 hbd ht2 q1 q2 q3 hD1 HT
          go_wp2_with fail
          refine ⟨⟨k + 1, 1, S, false, rfl, rfl, rfl, by go_num, by omega, by omega, ?_, hide ?_⟩, by simp [intOf]; omega⟩
          · have := HN.out.2.2; have := HN.out.2.1; simp only at *; omega
          · rw [HN.out.1, HN.out.2.1]
            exact ⟨by simp, rfl, by simp⟩
        · rw [q1] at c0
          rw [q3] at htk hbd
          rw [q2] at hD1
          obtain rfl : D = 0 := by rw [hD1]; simp
          have HN := Lib.hid (And.intro htk (And.intro hS1 hbd))
          clear htk hS1 hbd ht2 q1 q2 q3 hD1 HT
          go_wp2_with fail
          refine ⟨⟨k + 1, 0, S + 1, true, rfl, rfl, rfl, by go_num, by omega, by omega, ?_, hide ?_⟩, by simp [intOf]; omega⟩
          · have := HN.out.2.2; have := HN.out.2.1; simp only at *; omega
          · rw [HN.out.1, HN.out.2.1]
            exact ⟨by simp, rfl, by simp⟩
        · rw [q1] at c0
          rw [q3] at htk hbd
          rw [q2] at hD1
          obtain rfl : D = 1 := by rw [hD1]; simp
          have HN := Lib.hid (And.intro htk (And.intro hS1 hbd))
          clear htk hS1 hbd ht2 q1 q2 q3 hD1 HT
          go_wp2_with fail
          refine ⟨⟨k + 1, 0, S + 1, false, rfl, rfl, rfl, by go_num, by omega, by omega, ?_, hide ?_⟩, by simp [intOf]; omega⟩
          · have := HN.out.2.2; have := HN.out.2.1; simp only at *; omega
          · rw [HN.out.1, HN.out.2.1]
            refine ⟨?_, rfl, by simp⟩
            simp only
            split <;> simp
        · rw [q1] at c0
          rw [q3] at htk hbd
          rw [q2] at hD1
          obtain rfl : D = 0 := by rw [hD1]; simp
          have HN := Lib.hid (And.intro htk (And.intro hS1 hbd))
          clear htk hS1 hbd ht2 q1 q2 q3 hD1 HT
          go_wp2_with fail
          refine ⟨⟨k + 1, 0, S, false, rfl, rfl, rfl, by go_num, by omega, by omega, ?_, hide ?_⟩, by simp [intOf]; omega⟩
          · have := HN.out.2.2; have := HN.out.2.1; simp only at *; omega
          · rw [HN.out.1, HN.out.2.1]
            exact ⟨by simp, rfl, by simp⟩
        · rw [q1] at c0
          rw [q3] at htk hbd
          rw [q2] at hD1
          obtain rfl : D = 1 := by rw [hD1]; simp
          have HN := Lib.hid (And.intro htk (And.intro hS1 hbd))
          clear htk hS1 hbd ht2 q1 q2 q3 hD1 HT
          go_wp2_with fail
          refine ⟨⟨k + 1, 1, S, false, rfl, rfl, rfl, by go_num, by omega, by omega, ?_, hide ?_⟩, by simp [intOf]; omega⟩
          · have := HN.out.2.2; have := HN.out.2.1; simp only at *; omega
          · rw [HN.out.1, HN.out.2.1]
            exact ⟨by simp, rfl, by simp⟩
      · obtain rfl : k = j := by omega
        have hT' := HT.out
        rw [hZ] at hT'
        simp only at hT'
        obtain ⟨hD1, hS1, hO1⟩ := hT'
        subst hS1
        have i6 : ¬ (k : Int) < (k : Int) := by omega
        clear HT h2 rE hok hZ hlt
        by_cases h2 : s = 2
        · subst h2
          obtain rfl : D = 1 := by rw [hD1]; simp
          have hO : O = false := by
            cases O with
            | false => rfl
            | true => have := hO1 rfl; omega
          subst hO
          clear hO1 hD1
          go_wp2_with fail
          go_ret
          exact ⟨rfl, H6.out.1⟩
        · obtain rfl : D = 0 := by rw [hD1, if_neg h2]
          have t1 : (s == 2) = false := beqF h2
          cases O with
          | false =>
            clear hO1 hD1
            go_wp2_with fail
            go_ret
            exact ⟨rfl, H6.out.1⟩
          | true =>
            obtain rfl : s = 3 := hO1 rfl
            clear hO1 hD1
            go_wp2_with fail
            go_ret
            exact ⟨rfl, H6.out.1⟩
  · have hX := (((hvc.out.setCell (p := ⟨va.heap.size, 0, none⟩) hzc.out.2 (.int .i64 s)).setCell (p := ⟨va.heap.size, 1, none⟩) hzc.out.2 (.bool a)).setCell (p := ⟨va.heap.size, 2, none⟩) hzc.out.2 (.int .i64 m)).setCell (p := ⟨va.heap.size, 3, none⟩) hzc.out.2 (.int .i64 q)
    have kN : Blk ((((vc.setCell ⟨va.heap.size, 0, none⟩ (.int .i64 s)).setCell ⟨va.heap.size, 1, none⟩ (.bool a)).setCell ⟨va.heap.size, 2, none⟩ (.int .i64 m)).setCell ⟨va.heap.size, 3, none⟩ (.int .i64 q)) (va.heap.size) 76 #[.int .i64 s, .bool a, .int .i64 m, .int .i64 q] := (((hzc.out.1.set_ 0 (.int .i64 s)).set_ 1 (.bool a)).set_ 2 (.int .i64 m)).set_ 3 (.int .i64 q)
    clear z0 z1 z2 z3 u0 u1 u2 u3 hzc
    generalize ((((vc.setCell ⟨va.heap.size, 0, none⟩ (.int .i64 s)).setCell ⟨va.heap.size, 1, none⟩ (.bool a)).setCell ⟨va.heap.size, 2, none⟩ (.int .i64 m)).setCell ⟨va.heap.size, 3, none⟩ (.int .i64 q)) = W6 at hX kN ⊢
    generalize hG : va.heap.size = G at kN ⊢
    clear hG
    have y0 : W6.cell? ⟨G, 0, none⟩ = some (.int .i64 s) := kN.cell 0
    have y2 : W6.cell? ⟨G, 2, none⟩ = some (.int .i64 m) := kN.cell 2
    have hb6 := HB.out.1.trans (hX.mono HB.out.1.size)
    have rE6 := (HB.out.2.1.below hX).more hX.size
    have H6 := Lib.hid (And.intro hb6 rE6)
    clear hX kN hb6 rE6
    go_wp2_with fail
    go_loop [10, 11, 12, 13] (fun du se ov i => ∃ (k : Nat) (D S : Int) (O : Bool), du = .int .i64 D ∧ se = .int .i64 S ∧ ov = .bool O ∧ i = .int .i64 k ∧ k ≤ j ∧ (0 ≤ D ∧ D ≤ 1) ∧ (0 ≤ S ∧ S ≤ 1000000) ∧ Hid (D = (if (aft init (es.take k)).1 = 2 then 1 else 0) ∧ S = (aft init (es.take k)).2.2.1 ∧ (O = true → (aft init (es.take k)).1 = 3))) (fun _ _ _ i => j - (intOf i).toNat)
    case atStart => exact ⟨0, 0, 0, false, rfl, rfl, rfl, rfl, by omega, by omega, by omega, hide ⟨by simp [aft, init], by simp [aft, init], by simp⟩⟩
    case round =>
      obtain ⟨k, D, S, O, rfl, rfl, rfl, rfl, hk, hD, hS, HT⟩ := hrel
      obtain ⟨h2, rE, hok, hj, h40, hZ⟩ := HB.out
      by_cases hlt : k < j
      · obtain ⟨b, o, rfl, _, hc⟩ := H6.out.2.ev (by omega)
        have c0 := (hc k (by omega)).1
        obtain ⟨ht1, ht2⟩ := okT_take hok hlt hj
        have hbd := chkL_n (valid_step ht2)
        have htk : aft init (es.take (k + 1)) = stL (aft init (es.take k)) (es[k]'(by omega)) := by rw [List.take_succ_eq_append_getElem (by omega), aft_snoc]
        have i4 : (0 : Int) ≤ (k : Int) := by omega
        have i5 : (k : Int) < (es.length : Int) := by omega
        have i6 : (k : Int) < (j : Int) := by omega
        obtain ⟨T, hT⟩ : ∃ T, aft init (es.take k) = T := ⟨_, rfl⟩
        obtain ⟨ev, hev⟩ : ∃ ev, es[k]'(by omega) = ev := ⟨_, rfl⟩
        have hT' := HT.out
        rw [hT] at hT' ht2 htk hbd
        rw [hev] at c0 ht2 htk hbd
        obtain ⟨hD1, hS1, hO1⟩ := hT'
        have hO : O = false := by
          cases O with
          | false => rfl
          | true =>
            have := hO1 rfl
            rcases step_cases ht2 with ⟨_, h, _⟩ | ⟨_, h, _⟩ | ⟨_, h, _⟩ | ⟨_, h, _⟩ | ⟨_, h, _⟩ <;> omega
        subst hO
        clear hc ht1 h2 rE hok hZ hT hev hO1
        rcases step_cases ht2 with ⟨q1, q2, q3⟩ | ⟨q1, q2, q3⟩ | ⟨q1, q2, q3⟩ | ⟨q1, q2, q3⟩ | ⟨q1, q2, q3⟩
        · rw [q1] at c0
          rw [q3] at htk hbd
          rw [q2] at hD1
          obtain rfl : D = 0 := by rw [hD1]; simp
          have HN := Lib.hid (And.intro htk (And.intro hS1 hbd))
          clear htk hS1 hbd ht2 q1 q2 q3 hD1 HT
          go_wp2_with fail
          refine ⟨⟨k + 1, 1, S, false, rfl, rfl, rfl, by go_num, by omega, by omega, ?_, hide ?_⟩, by simp [intOf]; omega⟩
          · have := HN.out.2.2; have := HN.out.2.1; simp only at *; omega
          · rw [HN.out.1, HN.out.2.1]
            exact ⟨by simp, rfl, by simp⟩
        · rw [q1] at c0
          rw [q3] at htk hbd
          rw [q2] at hD1
          obtain rfl : D = 0 := by rw [hD1]; simp
          have HN := Lib.hid (And.intro htk (And.intro hS1 hbd))
          clear htk hS1 hbd ht2 q1 q2 q3 hD1 HT
          go_wp2_with fail
          refine ⟨⟨k + 1, 0, S + 1, true, rfl, rfl, rfl, by go_num, by omega, by omega, ?_, hide ?_⟩, by simp [intOf]; omega⟩
          · have := HN.out.2.2; have := HN.out.2.1; simp only at *; omega
          · rw [HN.out.1, HN.out.2.1]
            exact ⟨by simp, rfl, by simp⟩
        · rw [q1] at c0
          rw [q3] at htk hbd
          rw [q2] at hD1
          obtain rfl : D = 1 := by rw [hD1]; simp
          have HN := Lib.hid (And.intro htk (And.intro hS1 hbd))
          clear htk hS1 hbd ht2 q1 q2 q3 hD1 HT
          go_wp2_with fail
          refine ⟨⟨k + 1, 0, S + 1, false, rfl, rfl, rfl, by go_num, by omega, by omega, ?_, hide ?_⟩, by simp [intOf]; omega⟩
          · have := HN.out.2.2; have := HN.out.2.1; simp only at *; omega
          · rw [HN.out.1, HN.out.2.1]
            refine ⟨?_, rfl, by simp⟩
            simp only
            split <;> simp
        · rw [q1] at c0
          rw [q3] at htk hbd
          rw [q2] at hD1
          obtain rfl : D = 0 := by rw [hD1]; simp
          have HN := Lib.hid (And.intro htk (And.intro hS1 hbd))
          clear htk hS1 hbd ht2 q1 q2 q3 hD1 HT
          go_wp2_with fail
          refine ⟨⟨k + 1, 0, S, false, rfl, rfl, rfl, by go_num, by omega, by omega, ?_, hide ?_⟩, by simp [intOf]; omega⟩
          · have := HN.out.2.2; have := HN.out.2.1; simp only at *; omega
          · rw [HN.out.1, HN.out.2.1]
            exact ⟨by simp, rfl, by simp⟩
        · rw [q1] at c0
          rw [q3] at htk hbd
          rw [q2] at hD1
          obtain rfl : D = 1 := by rw [hD1]; simp
          have HN := Lib.hid (And.intro htk (And.intro hS1 hbd))
          clear htk hS1 hbd ht2 q1 q2 q3 hD1 HT
          go_wp2_with fail
          refine ⟨⟨k + 1, 1, S, false, rfl, rfl, rfl, by go_num, by omega, by omega, ?_, hide ?_⟩, by simp [intOf]; omega⟩
          · have := HN.out.2.2; have := HN.out.2.1; simp only at *; omega
          · rw [HN.out.1, HN.out.2.1]
            exact ⟨by simp, rfl, by simp⟩
      · obtain rfl : k = j := by omega
        have hT' := HT.out
        rw [hZ] at hT'
        simp only at hT'
        obtain ⟨hD1, hS1, hO1⟩ := hT'
        subst hS1
        have i6 : ¬ (k : Int) < (k : Int) := by omega
        clear HT h2 rE hok hZ hlt
        by_cases h2 : s = 2
        · subst h2
          obtain rfl : D = 1 := by rw [hD1]; simp
          have hO : O = false := by
            cases O with
            | false => rfl
            | true => have := hO1 rfl; omega
          subst hO
          clear hO1 hD1
          go_wp2_with fail
          go_ret
          exact ⟨rfl, H6.out.1⟩
        · obtain rfl : D = 0 := by rw [hD1, if_neg h2]
          have t1 : (s == 2) = false := beqF h2
          cases O with
          | false =>
            clear hO1 hD1
            go_wp2_with fail
            go_ret
            exact ⟨rfl, H6.out.1⟩
          | true =>
            obtain rfl : s = 3 := hO1 rfl
            clear hO1 hD1
            go_wp2_with fail
            go_ret
            exact ⟨rfl, H6.out.1⟩
  · have hX := (((hvc.out.setCell (p := ⟨w2.heap.size, 0, none⟩) hzc.out.2 (.int .i64 s)).setCell (p := ⟨w2.heap.size, 1, none⟩) hzc.out.2 (.bool a)).setCell (p := ⟨w2.heap.size, 2, none⟩) hzc.out.2 (.int .i64 m)).setCell (p := ⟨w2.heap.size, 3, none⟩) hzc.out.2 (.int .i64 q)
    have kN : Blk ((((vc.setCell ⟨w2.heap.size, 0, none⟩ (.int .i64 s)).setCell ⟨w2.heap.size, 1, none⟩ (.bool a)).setCell ⟨w2.heap.size, 2, none⟩ (.int .i64 m)).setCell ⟨w2.heap.size, 3, none⟩ (.int .i64 q)) (w2.heap.size) 76 #[.int .i64 s, .bool a, .int .i64 m, .int .i64 q] := (((hzc.out.1.set_ 0 (.int .i64 s)).set_ 1 (.bool a)).set_ 2 (.int .i64 m)).set_ 3 (.int .i64 q)
    clear z0 z1 z2 z3 u0 u1 u2 u3 hzc
    generalize ((((vc.setCell ⟨w2.heap.size, 0, none⟩ (.int .i64 s)).setCell ⟨w2.heap.size, 1, none⟩ (.bool a)).setCell ⟨w2.heap.size, 2, none⟩ (.int .i64 m)).setCell ⟨w2.heap.size, 3, none⟩ (.int .i64 q)) = W6 at hX kN ⊢
    generalize hG : w2.heap.size = G at kN ⊢
    clear hG
    have y0 : W6.cell? ⟨G, 0, none⟩ = some (.int .i64 s) := kN.cell 0
    have y2 : W6.cell? ⟨G, 2, none⟩ = some (.int .i64 m) := kN.cell 2
    have hb6 := HB.out.1.trans (hX.mono HB.out.1.size)
    have rE6 := (HB.out.2.1.below hX).more hX.size
    have H6 := Lib.hid (And.intro hb6 rE6)
    clear hX kN hb6 rE6
    go_wp2_with fail
    go_loop [10, 11, 12, 13] (fun du se ov i => ∃ (k : Nat) (D S : Int) (O : Bool), du = .int .i64 D ∧ se = .int .i64 S ∧ ov = .bool O ∧ i = .int .i64 k ∧ k ≤ j ∧ (0 ≤ D ∧ D ≤ 1) ∧ (0 ≤ S ∧ S ≤ 1000000) ∧ Hid (D = (if (aft init (es.take k)).1 = 2 then 1 else 0) ∧ S = (aft init (es.take k)).2.2.1 ∧ (O = true → (aft init (es.take k)).1 = 3))) (fun _ _ _ i => j - (intOf i).toNat)
    case atStart => exact ⟨0, 0, 0, false, rfl, rfl, rfl, rfl, by omega, by omega, by omega, hide ⟨by simp [aft, init], by simp [aft, init], by simp⟩⟩
    case round =>
      obtain ⟨k, D, S, O, rfl, rfl, rfl, rfl, hk, hD, hS, HT⟩ := hrel
      obtain ⟨h2, rE, hok, hj, h40, hZ⟩ := HB.out
      by_cases hlt : k < j
      · obtain ⟨b, o, rfl, _, hc⟩ := H6.out.2.ev (by omega)
        have c0 := (hc k (by omega)).1
        obtain ⟨ht1, ht2⟩ := okT_take hok hlt hj
        have hbd := chkL_n (valid_step ht2)
        have htk : aft init (es.take (k + 1)) = stL (aft init (es.take k)) (es[k]'(by omega)) := by rw [List.take_succ_eq_append_getElem (by omega), aft_snoc]
        have i4 : (0 : Int) ≤ (k : Int) := by omega
        have i5 : (k : Int) < (es.length : Int) := by omega
        have i6 : (k : Int) < (j : Int) := by omega
        obtain ⟨T, hT⟩ : ∃ T, aft init (es.take k) = T := ⟨_, rfl⟩
        obtain ⟨ev, hev⟩ : ∃ ev, es[k]'(by omega) = ev := ⟨_, rfl⟩
        have hT' := HT.out
        rw [hT] at hT' ht2 htk hbd
        rw [hev] at c0 ht2 htk hbd
        obtain ⟨hD1, hS1, hO1⟩ := hT'
        have hO : O = false := by
          cases O with
          | false => rfl
          | true =>
            have := hO1 rfl
            rcases step_cases ht2 with ⟨_, h, _⟩ | ⟨_, h, _⟩ | ⟨_, h, _⟩ | ⟨_, h, _⟩ | ⟨_, h, _⟩ <;> omega
        subst hO
        clear hc ht1 h2 rE hok hZ hT hev hO1
        rcases step_cases ht2 with ⟨q1, q2, q3⟩ | ⟨q1, q2, q3⟩ | ⟨q1, q2, q3⟩ | ⟨q1, q2, q3⟩ | ⟨q1, q2, q3⟩
        · rw [q1] at c0
          rw [q3] at htk hbd
          rw [q2] at hD1
          obtain rfl : D = 0 := by rw [hD1]; simp
          have HN := Lib.hid (And.intro htk (And.intro hS1 hbd))
          clear htk hS1 hbd ht2 q1 q2 q3 hD1 HT
          go_wp2_with fail
          refine ⟨⟨k + 1, 1, S, false, rfl, rfl, rfl, by go_num, by omega, by omega, ?_, hide ?_⟩, by simp [intOf]; omega⟩
          · have := HN.out.2.2; have := HN.out.2.1; simp only at *; omega
          · rw [HN.out.1, HN.out.2.1]
            exact ⟨by simp, rfl, by simp⟩
        · rw [q1] at c0
          rw [q3] at htk hbd
          rw [q2] at hD1
          obtain rfl : D = 0 := by rw [hD1]; simp
          have HN := Lib.hid (And.intro htk (And.intro hS1 hbd))
          clear htk hS1 hbd ht2 q1 q2 q3 hD1 HT
          go_wp2_with fail
          refine ⟨⟨k + 1, 0, S + 1, true, rfl, rfl, rfl, by go_num, by omega, by omega, ?_, hide ?_⟩, by simp [intOf]; omega⟩
          · have := HN.out.2.2; have := HN.out.2.1; simp only at *; omega
          · rw [HN.out.1, HN.out.2.1]
            exact ⟨by simp, rfl, by simp⟩
        · rw [q1] at c0
          rw [q3] at htk hbd
          rw [q2] at hD1
          obtain rfl : D = 1 := by rw [hD1]; simp
          have HN := Lib.hid (And.intro htk (And.intro hS1 hbd))
          clear htk hS1 hbd ht2 q1 q2 q3 hD1 HT
          go_wp2_with fail
          refine ⟨⟨k + 1, 0, S + 1, false, rfl, rfl, rfl, by go_num, by omega, by omega, ?_, hide ?_⟩, by simp [intOf]; omega⟩
          · have := HN.out.2.2; have := HN.out.2.1; simp only at *; omega
          · rw [HN.out.1, HN.out.2.1]
            refine ⟨?_, rfl, by simp⟩
            simp only
            split <;> simp
        · rw [q1] at c0
          rw [q3] at htk hbd
          rw [q2] at hD1
          obtain rfl : D = 0 := by rw [hD1]; simp
          have HN := Lib.hid (And.intro htk (And.intro hS1 hbd))
          clear htk hS1 hbd ht2 q1 q2 q3 hD1 HT
          go_wp2_with fail
          refine ⟨⟨k + 1, 0, S, false, rfl, rfl, rfl, by go_num, by omega, by omega, ?_, hide ?_⟩, by simp [intOf]; omega⟩
          · have := HN.out.2.2; have := HN.out.2.1; simp only at *; omega
          · rw [HN.out.1, HN.out.2.1]
            exact ⟨by simp, rfl, by simp⟩
        · rw [q1] at c0
          rw [q3] at htk hbd
          rw [q2] at hD1
          obtain rfl : D = 1 := by rw [hD1]; simp
          have HN := Lib.hid (And.intro htk (And.intro hS1 hbd))
          clear htk hS1 hbd ht2 q1 q2 q3 hD1 HT
          go_wp2_with fail
          refine ⟨⟨k + 1, 1, S, false, rfl, rfl, rfl, by go_num, by omega, by omega, ?_, hide ?_⟩, by simp [intOf]; omega⟩
          · have := HN.out.2.2; have := HN.out.2.1; simp only at *; omega
          · rw [HN.out.1, HN.out.2.1]
            exact ⟨by simp, rfl, by simp⟩
      · obtain rfl : k = j := by omega
        have hT' := HT.out
        rw [hZ] at hT'
        simp only at hT'
        obtain ⟨hD1, hS1, hO1⟩ := hT'
        subst hS1
        have i6 : ¬ (k : Int) < (k : Int) := by omega
        clear HT h2 rE hok hZ hlt
        by_cases h2 : s = 2
        · subst h2
          obtain rfl : D = 1 := by rw [hD1]; simp
          have hO : O = false := by
            cases O with
            | false => rfl
            | true => have := hO1 rfl; omega
          subst hO
          clear hO1 hD1
          go_wp2_with fail
          go_ret
          exact ⟨rfl, H6.out.1⟩
        · obtain rfl : D = 0 := by rw [hD1, if_neg h2]
          have t1 : (s == 2) = false := beqF h2
          cases O with
          | false =>
            clear hO1 hD1
            go_wp2_with fail
            go_ret
            exact ⟨rfl, H6.out.1⟩
          | true =>
            obtain rfl : s = 3 := hO1 rfl
            clear hO1 hD1
            go_wp2_with fail
            go_ret
            exact ⟨rfl, H6.out.1⟩
end
end Go.Proofs.YtepemdmjbfoiaaaDoor
