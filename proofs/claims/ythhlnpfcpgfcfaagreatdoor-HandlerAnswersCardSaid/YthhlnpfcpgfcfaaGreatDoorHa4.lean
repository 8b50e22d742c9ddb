/-
  Handlers: roots and Check of the program, Check of the reference.
-/
import Derived.Test.YthhlnpfcpgfcfaaGreatDoorHa1
import Derived.Test.YthhlnpfcpgfcfaaGreatDoorHa3
namespace Go.Proofs.YthhlnpfcpgfcfaaGreatDoor
open Go.RowKit

theorem suffix_slash (s : List UInt8) : Lib.hasSuffix s [47] = decide (s.getLast? = some 47) := by
  rcases last_cases s with rfl | ⟨u, y, rfl⟩
  · decide
  · rw [show (u ++ [y]).getLast? = some y by simp]
    unfold Lib.hasSuffix
    by_cases h : y = 47
    · subst h; simp
    · have h' : ¬ 47 = y := fun e => h e.symm
      simp only [List.isSuffixOf, List.reverse_append, List.reverse_cons, List.reverse_nil, List.nil_append, List.singleton_append, List.isPrefixOf]
      simp [h, h']
theorem pRoot (s : List UInt8) (w : World) (hs : s.length ≤ 1000000) :
    Calls Tryz.prog 44 #[.string (bs s)] w fun e w' => e = .returned (.bool (rootT s)) ∧ Below w.heap.size w w' := by
  have cN := pNormal s w hs
  have cS := fun w => Tryz.strings_HasSuffix (bs s) ⟨#[47]⟩ w (by rw [bs_size]; omega)
  rw [bs_list, show (⟨#[47]⟩ : ByteArray).data.toList = [47] from rfl, suffix_slash] at cS
  have hr : rootT s = (normalT s && (s == [47] || !decide (s.getLast? = some 47))) := rfl
  cases hn : normalT s with
  | false =>
    rw [hn] at cN hr
    rw [hr]
    have CN := Lib.hid cN
    clear cN cS hn hr
    go_enter Tryz.func44, Tryz.ntmps44
    go_wp2_with fail
    (with_reducible refine (CN.out).mono ?_); rintro e w1 ⟨rfl, g1⟩
    go_wp2_with fail
    go_ret
    exact ⟨rfl, g1⟩
  | true =>
    rw [hn] at cN hr
    by_cases h1 : s = [47]
    · have e1 := lit_t h1
      have hr2 : rootT s = true := by rw [hr, h1]; rfl
      rw [hr2]
      have CN := Lib.hid cN
      clear cN cS hn hr hr2 h1
      go_enter Tryz.func44, Tryz.ntmps44
      go_wp2_with fail
      (with_reducible refine (CN.out).mono ?_); rintro e w1 ⟨rfl, g1⟩
      go_wp2_with fail
      go_ret
      exact ⟨rfl, g1⟩
    · have e1 := lit_f h1
      have hr2 : rootT s = !decide (s.getLast? = some 47) := by
        rw [hr]
        have : (s == [47]) = false := by rw [beq_eq_false_iff_ne]; exact h1
        rw [this]; simp
      rw [hr2]
      obtain ⟨d, hd⟩ : ∃ d, decide (s.getLast? = some 47) = d := ⟨_, rfl⟩
      rw [hd] at cS ⊢
      have CN := Lib.hid cN
      have CS := Lib.hid cS
      clear cN cS hn hr hr2 h1 hd
      go_enter Tryz.func44, Tryz.ntmps44
      go_wp2_with fail
      (with_reducible refine (CN.out).mono ?_); rintro e w1 ⟨rfl, g1⟩
      go_wp2_with fail
      (with_reducible refine (CS.out _).mono ?_); rintro e w2 ⟨rfl, rfl⟩
      go_wp2_with fail
      go_ret
      exact ⟨rfl, g1⟩
/-- what was found, as a value -/
def fndV (f : FoundP) (S N V : Option Addr) (cs cn cv : Nat) : Value := .agg #[.bool f.ok, .slice S f.segs.length cs, .int .i64 f.kind, .string (bs f.text), .slice N f.names.length cn, .slice V f.vals.length cv, .string (bs f.rest)]
def fndC (f : FoundP) (S N V : Option Addr) (cs cn cv : Nat) : Array Value := #[.bool f.ok, .slice S f.segs.length cs, .int .i64 f.kind, .string (bs f.text), .slice N f.names.length cn, .slice V f.vals.length cv, .string (bs f.rest)]
/-- bounds of what was found -/
structure FndOk (f : FoundP) : Prop where
  segs : f.segs.length ≤ 1000000
  names : f.names.length ≤ 1000000
  vals : f.vals.length ≤ 1000000
  text : f.text.length ≤ 1000000
  rest : f.rest.length ≤ 1000000
set_option maxRecDepth 100000 in
set_option maxHeartbeats 4000000 in
theorem pCheckF (f : FoundP) (S N V : Option Addr) (cs cn cv : Nat) (w : World) (hf : FndOk f) :
    Calls Tryz.prog 17 #[fndV f S N V cs cn cv] w fun e w' => e = .returned (.int .i64 (checkF f : Nat)) ∧ Below w.heap.size w w' := by
  obtain ⟨h1, h2, h3, h4, h5⟩ := hf
  obtain ⟨ok, segs, kind, text, names, vals, rest⟩ := f
  unfold fndV
  simp only at *
  have b0 : ∀ c : Array Value, Below w.heap.size w (w.alloc (.cells c 42)) := fun c => (Below.refl _ _).alloc (Nat.le_refl _) _
  have B0 := Lib.hid b0
  clear b0
  cases ok with
  | false =>
    by_cases hz : segs.length + names.length + vals.length = 0 ∧ rest = [] ∧ kind = 0 ∧ text = []
    · have hc : checkF ⟨false, segs, kind, text, names, vals, rest⟩ = 0 := by unfold checkF; rw [if_pos rfl, if_pos hz]
      rw [hc]
      obtain ⟨z1, z2, z3, z4⟩ := hz
      have e1 : segs.length = 0 := by omega
      have e2 : names.length = 0 := by omega
      have e3 : vals.length = 0 := by omega
      rw [e1, e2, e3, z3]
      obtain ⟨m1, m2⟩ := emp_bs z2
      obtain ⟨m3, m4⟩ := emp_bs z4
      clear z1 z2 z3 z4 e1 e2 e3 hc h1 h2 h3 h4 h5
      go_enter Tryz.func17, Tryz.ntmps17
      go_wp2_with fail
      go_ret
      exact ⟨rfl, B0.out _⟩
    · have hc : checkF ⟨false, segs, kind, text, names, vals, rest⟩ = 3 := by unfold checkF; rw [if_pos rfl, if_neg hz]
      rw [hc]
      by_cases z1 : segs.length + names.length + vals.length = 0
      · have e1 : segs.length = 0 := by omega
        have e2 : names.length = 0 := by omega
        have e3 : vals.length = 0 := by omega
        rw [e1, e2, e3]
        by_cases z2 : rest = []
        · obtain ⟨m1, m2⟩ := emp_bs z2
          by_cases z3 : kind = 0
          · have z4 : text ≠ [] := fun h => hz ⟨z1, z2, z3, h⟩
            obtain ⟨m3, m4⟩ := nemp_bs z4
            rw [z3]
            clear z1 z2 z3 z4 e1 e2 e3 hc hz h1 h2 h3 h4 h5
            go_enter Tryz.func17, Tryz.ntmps17
            go_wp2_with fail
            go_ret
            exact ⟨rfl, B0.out _⟩
          · have d3 : (kind != 0) = true := by rw [bne_iff_ne]; exact z3
            have d4 : (kind == 0) = false := by rw [beq_eq_false_iff_ne]; exact z3
            clear z1 z2 z3 e1 e2 e3 hc hz h1 h2 h3 h4 h5
            go_enter Tryz.func17, Tryz.ntmps17
            go_wp2_with fail
            all_goals (
              go_ret
              exact ⟨rfl, B0.out _⟩)
        · obtain ⟨m1, m2⟩ := nemp_bs z2
          rcases Classical.em (text = []) with z5 | z5
          · obtain ⟨m3, m4⟩ := emp_bs z5
            clear z1 z2 e1 e2 e3 hc hz h1 h2 h3 h4 h5 z5
            go_enter Tryz.func17, Tryz.ntmps17
            go_wp2_with fail
            all_goals (
              go_ret
              exact ⟨rfl, B0.out _⟩)
          · obtain ⟨m3, m4⟩ := nemp_bs z5
            clear z1 z2 e1 e2 e3 hc hz h1 h2 h3 h4 h5 z5
            go_enter Tryz.func17, Tryz.ntmps17
            go_wp2_with fail
            all_goals (
              go_ret
              exact ⟨rfl, B0.out _⟩)
      · have d2 : (0 : Int) < (segs.length : Int) + (names.length : Int) + (vals.length : Int) := by omega
        rcases (show ¬ segs.length = 0 ∨ (segs.length = 0 ∧ ¬ names.length = 0) ∨ (segs.length = 0 ∧ names.length = 0 ∧ ¬ vals.length = 0) by omega) with q1 | ⟨q1, q2⟩ | ⟨q1, q2, q3⟩
        · have g1 : ((segs.length : Int) == 0) = false := by rw [beq_eq_false_iff_ne]; omega
          have g1' : ¬ ((segs.length : Int) = 0) := by omega
          clear z1 hc hz q1
          rcases Classical.em (text = []) with z5 | z5
          · obtain ⟨m3, m4⟩ := emp_bs z5
            clear z5
            go_enter Tryz.func17, Tryz.ntmps17
            go_wp2_with fail
            all_goals (
              go_ret
              exact ⟨rfl, B0.out _⟩)
          · obtain ⟨m3, m4⟩ := nemp_bs z5
            clear z5
            go_enter Tryz.func17, Tryz.ntmps17
            go_wp2_with fail
            all_goals (
              go_ret
              exact ⟨rfl, B0.out _⟩)
        · have g1 : ((names.length : Int) == 0) = false := by rw [beq_eq_false_iff_ne]; omega
          have g1' : ¬ ((names.length : Int) = 0) := by omega
          have d9 : (0 : Int) < (names.length : Int) + (vals.length : Int) := by omega
          rw [q1] at d2 ⊢
          clear z1 hc hz q1 q2
          rcases Classical.em (text = []) with z5 | z5
          · obtain ⟨m3, m4⟩ := emp_bs z5
            clear z5
            go_enter Tryz.func17, Tryz.ntmps17
            go_wp2_with fail
            all_goals (
              go_ret
              exact ⟨rfl, B0.out _⟩)
          · obtain ⟨m3, m4⟩ := nemp_bs z5
            clear z5
            go_enter Tryz.func17, Tryz.ntmps17
            go_wp2_with fail
            all_goals (
              go_ret
              exact ⟨rfl, B0.out _⟩)
        · have g1 : ((vals.length : Int) == 0) = false := by rw [beq_eq_false_iff_ne]; omega
          have g1' : ¬ ((vals.length : Int) = 0) := by omega
          have d9 : (0 : Int) < (vals.length : Int) := by omega
          rw [q1, q2] at d2 ⊢
          clear z1 hc hz q1 q2 q3
          rcases Classical.em (text = []) with z5 | z5
          · obtain ⟨m3, m4⟩ := emp_bs z5
            clear z5
            go_enter Tryz.func17, Tryz.ntmps17
            go_wp2_with fail
            all_goals first
              | (go_ret
                 exact ⟨rfl, B0.out _⟩)
              | (exfalso; omega)
              | (exfalso; simp_all)
          · obtain ⟨m3, m4⟩ := nemp_bs z5
            clear z5
            go_enter Tryz.func17, Tryz.ntmps17
            go_wp2_with fail
            all_goals first
              | (go_ret
                 exact ⟨rfl, B0.out _⟩)
              | (exfalso; omega)
              | (exfalso; simp_all)
  | true =>
    have key : checkF ⟨true, segs, kind, text, names, vals, rest⟩ = if kind < 1 ∨ 4 < kind then 10 else if names.length ≠ vals.length ∨ kind = 3 ∧ rootT text = false then 3 else 0 := by unfold checkF; rw [if_neg (by simp)]
    rw [key]
    clear key
    by_cases hk : kind < 1 ∨ 4 < kind
    · rw [if_pos hk]
      rcases hk with hk | hk
      · by_cases hk0 : kind = 0
        · subst hk0
          clear h1 h2 h3 h4 h5
          rcases Classical.em (text = []) with z5 | z5
          · obtain ⟨m3, m4⟩ := emp_bs z5
            clear z5
            rcases Classical.em (rest = []) with z6 | z6
            · obtain ⟨m5, m6⟩ := emp_bs z6
              clear z6
              go_enter Tryz.func17, Tryz.ntmps17
              go_wp2_with fail
              all_goals (
                go_ret
                exact ⟨rfl, B0.out _⟩)
            · obtain ⟨m5, m6⟩ := nemp_bs z6
              clear z6
              go_enter Tryz.func17, Tryz.ntmps17
              go_wp2_with fail
              all_goals (
                go_ret
                exact ⟨rfl, B0.out _⟩)
          · obtain ⟨m3, m4⟩ := nemp_bs z5
            clear z5
            go_enter Tryz.func17, Tryz.ntmps17
            go_wp2_with fail
            all_goals (
              go_ret
              exact ⟨rfl, B0.out _⟩)
        · have d3 : (kind == 0) = false := by rw [beq_eq_false_iff_ne]; exact hk0
          clear hk0 h1 h2 h3 h4 h5
          go_enter Tryz.func17, Tryz.ntmps17
          go_wp2_with fail
          all_goals (
            go_ret
            exact ⟨rfl, B0.out _⟩)
      · have d3 : (kind == 0) = false := by rw [beq_eq_false_iff_ne]; omega
        have d4 : 1 ≤ kind := by omega
        clear h1 h2 h3 h4 h5
        go_enter Tryz.func17, Tryz.ntmps17
        go_wp2_with fail
        all_goals (
          go_ret
          exact ⟨rfl, B0.out _⟩)
    · rw [if_neg hk]
      have d3 : (kind == 0) = false := by rw [beq_eq_false_iff_ne]; omega
      have d4 : 1 ≤ kind := by omega
      have d5 : kind ≤ 4 := by omega
      by_cases hl : names.length = vals.length
      · have e1 : ((names.length : Int) != (vals.length : Int)) = false := by rw [hl]; simp
        by_cases h3k : kind = 3
        · subst h3k
          cases hr : rootT text with
          | true =>
            rw [if_neg (by simp [hl])]
            have cR := fun w => pRoot text w h4
            rw [hr] at cR
            have CR := Lib.hid cR
            clear hk d3 d4 d5 h1 h2 h3 h4 h5 cR hr
            rw [hl]
            go_enter Tryz.func17, Tryz.ntmps17
            go_wp2_with fail
            (with_reducible refine (CR.out _).mono ?_); rintro e w2 ⟨rfl, g2⟩
            go_wp2_with fail
            go_ret
            exact ⟨rfl, (B0.out _).trans (g2.mono (B0.out _).size)⟩
          | false =>
            rw [if_pos (.inr ⟨rfl, rfl⟩)]
            have cR := fun w => pRoot text w h4
            rw [hr] at cR
            have CR := Lib.hid cR
            clear hk d3 d4 d5 h1 h2 h3 h4 h5 cR hr
            rw [hl]
            go_enter Tryz.func17, Tryz.ntmps17
            go_wp2_with fail
            (with_reducible refine (CR.out _).mono ?_); rintro e w2 ⟨rfl, g2⟩
            go_wp2_with fail
            go_ret
            exact ⟨rfl, (B0.out _).trans (g2.mono (B0.out _).size)⟩
        · have d6 : (kind == 3) = false := by rw [beq_eq_false_iff_ne]; exact h3k
          rw [if_neg (by simp [hl, h3k])]
          clear hk h1 h2 h3 h4 h5 h3k
          rw [hl]
          go_enter Tryz.func17, Tryz.ntmps17
          go_wp2_with fail
          go_ret
          exact ⟨rfl, B0.out _⟩
      · rw [if_pos (.inl hl)]
        have e1 : ((names.length : Int) != (vals.length : Int)) = true := by rw [bne_iff_ne]; omega
        clear hk h1 h2 h3 h4 h5
        go_enter Tryz.func17, Tryz.ntmps17
        go_wp2_with fail
        all_goals (
          go_ret
          exact ⟨rfl, B0.out _⟩)
set_option maxRecDepth 100000 in
set_option maxHeartbeats 4000000 in
theorem rCheckF (f : FoundP) (S N V : Option Addr) (cs cn cv : Nat) (w : World) (hf : FndOk f) :
    Calls Tryz.prog 18 #[fndV f S N V cs cn cv] w fun e w' => e = .returned (.int .i64 (checkF f : Nat)) ∧ Below w.heap.size w w' := by
  obtain ⟨h1, h2, h3, h4, h5⟩ := hf
  obtain ⟨ok, segs, kind, text, names, vals, rest⟩ := f
  unfold fndV
  simp only at *
  have b0 : ∀ c : Array Value, Below w.heap.size w (w.alloc (.cells c 42)) := fun c => (Below.refl _ _).alloc (Nat.le_refl _) _
  have B0 := Lib.hid b0
  clear b0
  cases ok with
  | false =>
    by_cases hz : segs.length + names.length + vals.length = 0 ∧ rest = [] ∧ kind = 0 ∧ text = []
    · have hc : checkF ⟨false, segs, kind, text, names, vals, rest⟩ = 0 := by unfold checkF; rw [if_pos rfl, if_pos hz]
      rw [hc]
      obtain ⟨z1, z2, z3, z4⟩ := hz
      have e1 : segs.length = 0 := by omega
      have e2 : names.length = 0 := by omega
      have e3 : vals.length = 0 := by omega
      rw [e1, e2, e3, z3]
      obtain ⟨m1, m2⟩ := emp_bs z2
      obtain ⟨m3, m4⟩ := emp_bs z4
      clear z1 z2 z3 z4 e1 e2 e3 hc h1 h2 h3 h4 h5
      go_enter Tryz.func18, Tryz.ntmps18
      go_wp2_with fail
      go_ret
      exact ⟨rfl, B0.out _⟩
    · have hc : checkF ⟨false, segs, kind, text, names, vals, rest⟩ = 3 := by unfold checkF; rw [if_pos rfl, if_neg hz]
      rw [hc]
      by_cases z1 : segs.length + names.length + vals.length = 0
      · have e1 : segs.length = 0 := by omega
        have e2 : names.length = 0 := by omega
        have e3 : vals.length = 0 := by omega
        rw [e1, e2, e3]
        by_cases z2 : rest = []
        · obtain ⟨m1, m2⟩ := emp_bs z2
          by_cases z3 : kind = 0
          · have z4 : text ≠ [] := fun h => hz ⟨z1, z2, z3, h⟩
            obtain ⟨m3, m4⟩ := nemp_bs z4
            rw [z3]
            clear z1 z2 z3 z4 e1 e2 e3 hc hz h1 h2 h3 h4 h5
            go_enter Tryz.func18, Tryz.ntmps18
            go_wp2_with fail
            go_ret
            exact ⟨rfl, B0.out _⟩
          · have d3 : (kind != 0) = true := by rw [bne_iff_ne]; exact z3
            have d4 : (kind == 0) = false := by rw [beq_eq_false_iff_ne]; exact z3
            clear z1 z2 z3 e1 e2 e3 hc hz h1 h2 h3 h4 h5
            go_enter Tryz.func18, Tryz.ntmps18
            go_wp2_with fail
            all_goals (
              go_ret
              exact ⟨rfl, B0.out _⟩)
        · obtain ⟨m1, m2⟩ := nemp_bs z2
          rcases Classical.em (text = []) with z5 | z5
          · obtain ⟨m3, m4⟩ := emp_bs z5
            clear z1 z2 e1 e2 e3 hc hz h1 h2 h3 h4 h5 z5
            go_enter Tryz.func18, Tryz.ntmps18
            go_wp2_with fail
            all_goals (
              go_ret
              exact ⟨rfl, B0.out _⟩)
          · obtain ⟨m3, m4⟩ := nemp_bs z5
            clear z1 z2 e1 e2 e3 hc hz h1 h2 h3 h4 h5 z5
            go_enter Tryz.func18, Tryz.ntmps18
            go_wp2_with fail
            all_goals (
              go_ret
              exact ⟨rfl, B0.out _⟩)
      · have d2 : (0 : Int) < (segs.length : Int) + (names.length : Int) + (vals.length : Int) := by omega
        rcases (show ¬ segs.length = 0 ∨ (segs.length = 0 ∧ ¬ names.length = 0) ∨ (segs.length = 0 ∧ names.length = 0 ∧ ¬ vals.length = 0) by omega) with q1 | ⟨q1, q2⟩ | ⟨q1, q2, q3⟩
        · have g1 : ((segs.length : Int) == 0) = false := by rw [beq_eq_false_iff_ne]; omega
          have g1' : ¬ ((segs.length : Int) = 0) := by omega
          clear z1 hc hz q1
          rcases Classical.em (text = []) with z5 | z5
          · obtain ⟨m3, m4⟩ := emp_bs z5
            clear z5
            go_enter Tryz.func18, Tryz.ntmps18
            go_wp2_with fail
            all_goals (
              go_ret
              exact ⟨rfl, B0.out _⟩)
          · obtain ⟨m3, m4⟩ := nemp_bs z5
            clear z5
            go_enter Tryz.func18, Tryz.ntmps18
            go_wp2_with fail
            all_goals (
              go_ret
              exact ⟨rfl, B0.out _⟩)
        · have g1 : ((names.length : Int) == 0) = false := by rw [beq_eq_false_iff_ne]; omega
          have g1' : ¬ ((names.length : Int) = 0) := by omega
          have d9 : (0 : Int) < (names.length : Int) + (vals.length : Int) := by omega
          rw [q1] at d2 ⊢
          clear z1 hc hz q1 q2
          rcases Classical.em (text = []) with z5 | z5
          · obtain ⟨m3, m4⟩ := emp_bs z5
            clear z5
            go_enter Tryz.func18, Tryz.ntmps18
            go_wp2_with fail
            all_goals (
              go_ret
              exact ⟨rfl, B0.out _⟩)
          · obtain ⟨m3, m4⟩ := nemp_bs z5
            clear z5
            go_enter Tryz.func18, Tryz.ntmps18
            go_wp2_with fail
            all_goals (
              go_ret
              exact ⟨rfl, B0.out _⟩)
        · have g1 : ((vals.length : Int) == 0) = false := by rw [beq_eq_false_iff_ne]; omega
          have g1' : ¬ ((vals.length : Int) = 0) := by omega
          have d9 : (0 : Int) < (vals.length : Int) := by omega
          rw [q1, q2] at d2 ⊢
          clear z1 hc hz q1 q2 q3
          rcases Classical.em (text = []) with z5 | z5
          · obtain ⟨m3, m4⟩ := emp_bs z5
            clear z5
            go_enter Tryz.func18, Tryz.ntmps18
            go_wp2_with fail
            all_goals (
              go_ret
              exact ⟨rfl, B0.out _⟩)
          · obtain ⟨m3, m4⟩ := nemp_bs z5
            clear z5
            go_enter Tryz.func18, Tryz.ntmps18
            go_wp2_with fail
            all_goals (
              go_ret
              exact ⟨rfl, B0.out _⟩)
  | true =>
    have key : checkF ⟨true, segs, kind, text, names, vals, rest⟩ = if kind < 1 ∨ 4 < kind then 10 else if names.length ≠ vals.length ∨ kind = 3 ∧ rootT text = false then 3 else 0 := by unfold checkF; rw [if_neg (by simp)]
    rw [key]
    clear key
    by_cases hk : kind < 1 ∨ 4 < kind
    · rw [if_pos hk]
      rcases hk with hk | hk
      · by_cases hk0 : kind = 0
        · subst hk0
          clear h1 h2 h3 h4 h5
          rcases Classical.em (text = []) with z5 | z5
          · obtain ⟨m3, m4⟩ := emp_bs z5
            clear z5
            rcases Classical.em (rest = []) with z6 | z6
            · obtain ⟨m5, m6⟩ := emp_bs z6
              clear z6
              go_enter Tryz.func18, Tryz.ntmps18
              go_wp2_with fail
              all_goals (
                go_ret
                exact ⟨rfl, B0.out _⟩)
            · obtain ⟨m5, m6⟩ := nemp_bs z6
              clear z6
              go_enter Tryz.func18, Tryz.ntmps18
              go_wp2_with fail
              all_goals (
                go_ret
                exact ⟨rfl, B0.out _⟩)
          · obtain ⟨m3, m4⟩ := nemp_bs z5
            clear z5
            go_enter Tryz.func18, Tryz.ntmps18
            go_wp2_with fail
            all_goals (
              go_ret
              exact ⟨rfl, B0.out _⟩)
        · have d3 : (kind == 0) = false := by rw [beq_eq_false_iff_ne]; exact hk0
          clear hk0 h1 h2 h3 h4 h5
          go_enter Tryz.func18, Tryz.ntmps18
          go_wp2_with fail
          all_goals (
            go_ret
            exact ⟨rfl, B0.out _⟩)
      · have d3 : (kind == 0) = false := by rw [beq_eq_false_iff_ne]; omega
        have d4 : 1 ≤ kind := by omega
        clear h1 h2 h3 h4 h5
        go_enter Tryz.func18, Tryz.ntmps18
        go_wp2_with fail
        all_goals (
          go_ret
          exact ⟨rfl, B0.out _⟩)
    · rw [if_neg hk]
      have d3 : (kind == 0) = false := by rw [beq_eq_false_iff_ne]; omega
      have d4 : 1 ≤ kind := by omega
      have d5 : kind ≤ 4 := by omega
      by_cases hl : names.length = vals.length
      · have e1 : ((names.length : Int) != (vals.length : Int)) = false := by rw [hl]; simp
        by_cases h3k : kind = 3
        · subst h3k
          cases hr : rootT text with
          | true =>
            rw [if_neg (by simp [hl])]
            have cR := fun w => rRoot text w h4
            rw [hr] at cR
            have CR := Lib.hid cR
            clear hk d3 d4 d5 h1 h2 h3 h4 h5 cR hr
            rw [hl]
            go_enter Tryz.func18, Tryz.ntmps18
            go_wp2_with fail
            (with_reducible refine (CR.out _).mono ?_); rintro e w2 ⟨rfl, g2⟩
            go_wp2_with fail
            go_ret
            exact ⟨rfl, (B0.out _).trans (g2.mono (B0.out _).size)⟩
          | false =>
            rw [if_pos (.inr ⟨rfl, rfl⟩)]
            have cR := fun w => rRoot text w h4
            rw [hr] at cR
            have CR := Lib.hid cR
            clear hk d3 d4 d5 h1 h2 h3 h4 h5 cR hr
            rw [hl]
            go_enter Tryz.func18, Tryz.ntmps18
            go_wp2_with fail
            (with_reducible refine (CR.out _).mono ?_); rintro e w2 ⟨rfl, g2⟩
            go_wp2_with fail
            go_ret
            exact ⟨rfl, (B0.out _).trans (g2.mono (B0.out _).size)⟩
        · have d6 : (kind == 3) = false := by rw [beq_eq_false_iff_ne]; exact h3k
          rw [if_neg (by simp [hl, h3k])]
          clear hk h1 h2 h3 h4 h5 h3k
          rw [hl]
          go_enter Tryz.func18, Tryz.ntmps18
          go_wp2_with fail
          go_ret
          exact ⟨rfl, B0.out _⟩
      · rw [if_pos (.inl hl)]
        have e1 : ((names.length : Int) != (vals.length : Int)) = true := by rw [bne_iff_ne]; omega
        clear hk h1 h2 h3 h4 h5
        go_enter Tryz.func18, Tryz.ntmps18
        go_wp2_with fail
        all_goals (
          go_ret
          exact ⟨rfl, B0.out _⟩)
end Go.Proofs.YthhlnpfcpgfcfaaGreatDoor
