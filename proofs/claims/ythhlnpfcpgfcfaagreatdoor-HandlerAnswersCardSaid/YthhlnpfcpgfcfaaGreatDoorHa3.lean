/-
  Handlers: the reference's pieces of a path, and its Normal.
-/
import Derived.Test.YthhlnpfcpgfcfaaGreatDoorHa0
import Derived.Test.YthhlnpfcpgfcfaaGreatDoorHa2
import Derived.Test.YthhlnpfcpgfcfaaGreatDoorBase
import Derived.Test.YthhlnpfcpgfcfaaGreatDoorOw
import Derived.Test.YthhlnpfcpgfcfaaGreatDoorKt1
import Derived.Test.YthhlnpfcpgfcfaaGreatDoorRd
import Derived.Maps.AppendAt
namespace Go.Proofs.YthhlnpfcpgfcfaaGreatDoor
open Go.RowKit

theorem infoStrH : (Tryz.prog.info? 9).map (fun i => (i.zero, i.size, i.bytes)) = some (some (.string .empty), 1, 16) := by kernel_rfl
/-- how far the reference has come: pre: the elements behind which it is; f: where the one at hand begins; k: where it stands -/
def RLc (c : UInt8) (l : List UInt8) (pre : List (List UInt8)) (f k : Nat) : Prop :=
  if k ≤ l.length then f ≤ k ∧ splitC c l = pre ++ splitC c (l.drop f) ∧ ∀ b ∈ (l.drop f).take (k - f), b ≠ c else splitC c l = pre
theorem RLc_start {c : UInt8} (l : List UInt8) : RLc c l [] 0 0 := by simp [RLc]
theorem RLc_on {c : UInt8} {l : List UInt8} {pre : List (List UInt8)} {f k : Nat} (h : RLc c l pre f k) (hk : k < l.length) (hne : l[k] ≠ c) : RLc c l pre f (k + 1) := by
  unfold RLc at h ⊢
  rw [if_pos (by omega)] at h
  rw [if_pos (by omega)]
  obtain ⟨h1, h2, h3⟩ := h
  refine ⟨by omega, h2, ?_⟩
  rw [show k + 1 - f = (k - f) + 1 by omega, List.take_succ_eq_append_getElem (by simp; omega)]
  intro b hb
  rcases List.mem_append.1 hb with hb | hb
  · exact h3 b hb
  · rw [List.mem_singleton.1 hb, List.getElem_drop]
    simpa [show f + (k - f) = k by omega] using hne
theorem RLc_cut {c : UInt8} {l : List UInt8} {pre : List (List UInt8)} {f k : Nat} (h : RLc c l pre f k) (hk : k ≤ l.length) (hc : ∀ h : k < l.length, l[k] = c) : RLc c l (pre ++ [(l.drop f).take (k - f)]) (k + 1) (k + 1) := by
  unfold RLc at h ⊢
  rw [if_pos hk] at h
  obtain ⟨h1, h2, h3⟩ := h
  by_cases hlt : k < l.length
  · rw [if_pos (by omega)]
    refine ⟨by omega, ?_, by simp⟩
    have e : l.drop f = (l.drop f).take (k - f) ++ c :: l.drop (k + 1) := by
      conv => lhs; rw [← List.take_append_drop (k - f) (l.drop f)]
      rw [List.drop_drop, show f + (k - f) = k by omega]
      congr 1
      rw [List.drop_eq_getElem_cons hlt, hc hlt]
    have hs : splitC c (l.drop f) = (l.drop f).take (k - f) :: splitC c (l.drop (k + 1)) := by
      conv => lhs; rw [e]
      exact split_at c _ _ h3
    rw [h2, hs]; simp
  · rw [if_neg (by omega), h2]
    congr 1
    have e : (l.drop f).take (k - f) = l.drop f := List.take_of_length_le (by simp; omega)
    rw [e] at h3 ⊢
    exact split_none c _ h3
theorem RLc_end {c : UInt8} {l : List UInt8} {pre : List (List UInt8)} {f k : Nat} (h : RLc c l pre f k) (hk : l.length < k) : splitC c l = pre := by
  unfold RLc at h; rwa [if_neg (by omega)] at h
theorem RLc_len {c : UInt8} {l : List UInt8} {pre : List (List UInt8)} {f k : Nat} (h : RLc c l pre f k) : pre.length ≤ l.length + 1 := by
  have hs := (splitC_len c l).1
  unfold RLc at h
  split at h
  · have := congrArg List.length h.2.1
    simp at this; omega
  · rw [h] at hs; exact hs
theorem RLc_pre {c : UInt8} {l : List UInt8} {pre : List (List UInt8)} {f k : Nat} (h : RLc c l pre f k) : ∃ r, splitC c l = pre ++ r := by
  unfold RLc at h
  split at h
  · exact ⟨_, h.2.1⟩
  · exact ⟨[], by simpa using h⟩
/-- a path: a slash at its head -/
theorem pPath14 (s : List UInt8) (w : World) (hs : s.length ≤ 1000000) :
    Calls Tryz.prog 98 #[.string (bs s)] w fun e w' => e = .returned (.bool (decide (s.head? = some 47))) ∧ w' = w := by
  have hz := bs_size s
  cases s with
  | nil =>
    obtain ⟨m1, m2⟩ := emp_bs (rfl : ([] : List UInt8) = [])
    go_enter Tryz.func98, Tryz.ntmps98
    go_wp2_with fail
    go_ret
    exact ⟨rfl, rfl⟩
  | cons x t =>
    obtain ⟨m1, m2⟩ := nemp_bs (show x :: t ≠ [] by simp)
    have h0 : 0 < (bs (x :: t)).size := by rw [bs_size]; simp
    have hb : (bs (x :: t))[0] = x := rfl
    simp only [List.head?_cons, Option.some.injEq]
    by_cases hx : x = 47
    · subst hx
      go_enter Tryz.func98, Tryz.ntmps98
      go_wp2_with fail
      go_ret
      exact ⟨rfl, rfl⟩
    · have hq : ((x.toNat : Int) == 47) = false := by rw [beq_eq_false_iff_ne]; intro e; exact hx (UInt8.toNat_inj.1 (by show x.toNat = 47; omega))
      go_enter Tryz.func98, Tryz.ntmps98
      go_wp2_with fail
      go_ret
      exact ⟨by simp [hx], rfl⟩
set_option maxRecDepth 100000 in
set_option maxHeartbeats 4000000 in
theorem pPieces14 (x : UInt8) (t : List UInt8) (w : World) (hs : t.length ≤ 1000) :
    Calls Tryz.prog 99 #[.string (bs (x :: t))] w fun e w' => ∃ A c, e = .returned (.slice A (splitC 47 t).length c) ∧ Reads w' w'.heap.size 1 A (splitC 47 t).length (strs (splitC 47 t)) ∧ Below w.heap.size w w' := by
  obtain ⟨i0, hi, hz0, hz1, hz2⟩ := info_parts infoStrH
  have HI := Lib.hid (And.intro hi (And.intro hz0 (And.intro hz1 hz2)))
  have hz : (bs (x :: t)).size = t.length + 1 := by rw [bs_size]; simp
  obtain ⟨S, hS⟩ : ∃ S, bs (x :: t) = S := ⟨_, rfl⟩
  have hat : ∀ k (h : k < t.length) (h2 : k + 1 < S.size), S[k + 1] = t[k] := by subst hS; intro k h h2; rfl
  have hxt : ∀ f k, f ≤ k → S.extract (f + 1) (k + 1) = bs ((t.drop f).take (k - f)) := by
    intro f k hfk
    subst hS
    rw [xb]; congr 1
    rw [List.take_succ_cons, List.drop_succ_cons, List.drop_take]
  have HX := Lib.hid hxt
  have HA := Lib.hid hat
  rw [hS] at hz ⊢
  clear hi hz0 hz1 hz2 hS hxt hat
  go_enter Tryz.func99, Tryz.ntmps99
  go_wp2_with fail
  go_loopw [3, 4, 5] (fun o f i wr => ∃ (pre : List (List UInt8)) (kf k : Nat), f = .int .i64 ((kf + 1 : Nat) : Int) ∧ i = .int .i64 ((k + 1 : Nat) : Int) ∧ k ≤ t.length + 1 ∧ Hid (RLc 47 t pre kf k) ∧
    Hid (wr.ownsRow w.heap.size 9 1 o pre.length (strs pre)) ∧ Below w.heap.size w wr) (fun _ _ i _ => t.length + 2 - (intOf i).toNat)
  case atStart => exact ⟨[], 0, 0, rfl, rfl, by omega, RLc_start _, World.ownsRow_nil _ _ _ _, Below.refl _ _⟩
  case round =>
    obtain ⟨pre, kf, k, rfl, rfl, hk, HR, HO, hb⟩ := hrel
    rename World => W0
    by_cases hle : k ≤ t.length
    · have hfk : kf ≤ k := by
        have := HR.out; unfold RLc at this; rw [if_pos hle] at this; exact this.1
      by_cases hc : ∃ h : k < t.length, t[k] ≠ 47
      · obtain ⟨hlt, hne⟩ := hc
        have hk1 : k + 1 < S.size := by omega
        have hb1 := HA.out k hlt hk1
        obtain ⟨c, hcc⟩ : ∃ c, t[k] = c := ⟨_, rfl⟩
        rw [hcc] at hb1
        have hq : ((c.toNat : Int) == 47) = false := by
          rw [beq_eq_false_iff_ne]; intro e; exact hne (hcc.trans (UInt8.toNat_inj.1 (by show c.toNat = 47; omega)))
        have HN : Hid (RLc 47 t pre kf (k + 1)) := RLc_on HR.out hlt hne
        have hq2 : (((k : Int) + 1) == ((t.length : Int) + 1)) = false := by rw [beq_eq_false_iff_ne]; omega
        clear hne hcc
        go_wp2_with fail
        exact ⟨⟨pre, kf, k + 1, by go_num, by go_num, by omega, HN, HO, hb⟩, by simp [intOf]; omega⟩
      · have hcc : ∀ h : k < t.length, t[k] = 47 := fun h => by
          refine Classical.byContradiction fun hne => hc ⟨h, hne⟩
        have HN : Hid (RLc 47 t (pre ++ [(t.drop kf).take (k - kf)]) (k + 1) (k + 1)) := RLc_cut HR.out hle hcc
        obtain ⟨y, hy⟩ : ∃ y, (t.drop kf).take (k - kf) = y := ⟨_, rfl⟩
        have hex := HX.out kf k hfk
        rw [hy] at HN hex
        have hplen : pre.length ≤ 1100 := by
          have h1 := RLc_len HR.out
          omega
        obtain ⟨i1, i2, i3, i4⟩ := HI.out
        obtain ⟨v', w5, hrun, hown, hg5, hlt5, hor⟩ := app_one (P := Tryz.prog) 38 38 9 i0 (.string .empty) 1 16 Tryz.underlying38 i1 i2 i3 i4 rfl (by decide) w.heap.size W0 u3 _ _ HO.out #[.string (bs y)] rfl (by intro u hu; simp at hu; subst hu; rfl) 9 (by unfold maxLen; omega) (by omega) hb.size
        have hb5 : Below w.heap.size w w5 := hb.grown hg5 hb.size (own_ge HO.out)
        have HO' : Hid (w5.ownsRow w.heap.size 9 1 v' (pre ++ [y]).length (strs (pre ++ [y]))) := by
          show w5.ownsRow _ _ _ _ _ _
          rw [strs_app, List.length_append]; exact hown
        have HRUN := Lib.hid hrun
        have hgu : (k < t.length ∧ ∀ h : k + 1 < S.size, S[k + 1] = 47) ∨ k = t.length := by
          rcases Nat.lt_or_ge k t.length with h | h
          · exact .inl ⟨h, fun h2 => (HA.out k h h2).trans (hcc h)⟩
          · exact .inr (by omega)
        clear hrun hown hg5 hor i1 i2 i3 i4 hy hcc hc
        rcases hgu with ⟨hlt, hg⟩ | rfl
        · have hk1 : k + 1 < S.size := by omega
          have hb1 := hg hk1
          have hq2 : (((k : Int) + 1) == ((t.length : Int) + 1)) = false := by rw [beq_eq_false_iff_ne]; omega
          clear hg
          go_wp2_with (at_builtin; refine wpList_append_run HRUN.out rfl _ _ rfl rfl rfl rfl ?_)
          go_roundw
          case rel => exact ⟨pre ++ [y], k + 1, k + 1, by go_num, by go_num, by omega, HN, HO', hb5⟩
          case measure => simp [intOf]; omega
        · go_wp2_with (at_builtin; refine wpList_append_run HRUN.out rfl _ _ rfl rfl rfl rfl ?_)
          go_roundw
          case rel => exact ⟨pre ++ [y], t.length + 1, t.length + 1, by go_num, by go_num, by omega, HN, HO', hb5⟩
          case measure => simp [intOf]; try omega
    · obtain rfl : k = t.length + 1 := by omega
      have he := RLc_end HR.out (by omega)
      have HE := Lib.hid he
      clear he
      obtain ⟨A, cap, rfl⟩ := own_slice HO.out
      go_wp2_with fail
      go_ret
      rw [HE.out]
      exact ⟨A, cap, rfl, Reads.of_own HO.out, hb⟩
theorem lasts_get : ∀ (L : List (List UInt8)) (i : Nat) (h : i < L.length), (lastsP L)[i]? = some (L[i], decide (i + 1 = L.length))
  | [], i, h => by simp at h
  | [p], i, h => by
    obtain rfl : i = 0 := by simpa using h
    simp [lastsP]
  | p :: q :: l, i, h => by
    cases i with
    | zero => simp [lastsP]
    | succ i =>
      have := lasts_get (q :: l) i (by simpa using h)
      rw [lastsP, List.getElem?_cons_succ, this]
      simp
theorem lasts_len : ∀ L : List (List UInt8), (lastsP L).length = L.length
  | [] => rfl
  | [p] => rfl
  | p :: q :: l => by rw [lastsP, List.length_cons, lasts_len (q :: l)]; rfl
theorem norm_false {L : List (List UInt8)} {i : Nat} (h : i < L.length) (hb : badP (L[i], decide (i + 1 = L.length)) = true) : normP L = false := by
  rw [norm_lasts, List.all_eq_false]
  exact ⟨_, List.mem_of_getElem? (lasts_get L i h), by rw [hb]; simp⟩
theorem norm_true {L : List (List UInt8)} (h : ∀ (i : Nat) (h : i < L.length), badP (L[i], decide (i + 1 = L.length)) = false) : normP L = true := by
  rw [norm_lasts, List.all_eq_true]
  intro x hx
  obtain ⟨i, hi, rfl⟩ := List.getElem_of_mem hx
  rw [lasts_len] at hi
  have := lasts_get L i hi
  rw [List.getElem?_eq_getElem (by rw [lasts_len]; exact hi)] at this
  injection this with this
  rw [this, h i hi]
  rfl
set_option maxRecDepth 100000 in
set_option maxHeartbeats 4000000 in
theorem pNormal14 (s : List UInt8) (w : World) (hs : s.length ≤ 1000000) :
    Calls Tryz.prog 72 #[.string (bs s)] w fun e w' => e = .returned (.bool (normalT s)) ∧ Below w.heap.size w w' := by
  have hz := bs_size s
  have cP := pPath14 s w hs
  by_cases hh : s.head? = some 47
  · obtain ⟨t, rfl⟩ : ∃ t, s = 47 :: t := by
      cases s with
      | nil => simp at hh
      | cons x t => simp at hh; subst hh; exact ⟨t, rfl⟩
    rw [decide_eq_true hh] at cP
    by_cases h2 : t.length + 1 ≤ 128
    · have e : normalT (47 :: t) = normP (splitC 47 t) := by unfold normalT; simp; intro _; omega
      rw [e]
      have cQ := fun w => pPieces14 47 t w (by omega)
      have hls := (splitC_len 47 t).1
      obtain ⟨S, hS⟩ : ∃ S, bs (47 :: t) = S := ⟨_, rfl⟩
      rw [hS] at hz cP cQ ⊢
      obtain ⟨L, hL⟩ : ∃ L, splitC 47 t = L := ⟨_, rfl⟩
      rw [hL] at cQ hls ⊢
      simp only [List.length_cons] at hz
      have d2 : decide ((128 : Int) < (t.length : Int) + 1) = false := by simp; omega
      have CP := Lib.hid cP
      have CQ := Lib.hid cQ
      clear e hS hL cP cQ hh hs
      go_enter Tryz.func72, Tryz.ntmps72
      go_wp2_with fail
      (with_reducible refine (CP.out).mono ?_); rintro e w1 ⟨rfl, rfl⟩
      go_wp2_with fail
      (with_reducible refine (CQ.out _).mono ?_); rintro e w2 ⟨A, c, rfl, hr, g2⟩
      have HR := Lib.hid hr
      have G2 := Lib.hid g2
      clear hr g2
      go_wp2_with fail
      go_loopw [4] (fun i wr => ∃ k : Nat, i = .int .i64 k ∧ k ≤ L.length ∧ wr = w2 ∧ Hid (∀ (j : Nat) (h : j < L.length), j < k → badP (L[j], decide (j + 1 = L.length)) = false)) (fun i _ => L.length - (intOf i).toNat)
      case atStart => exact ⟨0, rfl, by omega, rfl, hide (fun j _ h => by omega)⟩
      case round =>
        obtain ⟨k, rfl, hk, rfl, hok⟩ := hrel
        by_cases hlt : k < L.length
        · obtain ⟨b, o, rfl, hbl, hc⟩ := HR.out.text k hlt
          have hnf := fun h => norm_false (L := L) (i := k) hlt h
          have hstep : badP (L[k], decide (k + 1 = L.length)) = false → Hid (∀ (j : Nat) (h : j < L.length), j < k + 1 → badP (L[j], decide (j + 1 = L.length)) = false) := fun hb j h hj => by
            rcases Nat.lt_or_ge j k with h2 | h2
            · exact hok.out j h h2
            · obtain rfl : j = k := by omega
              exact hb
          have HNF := Lib.hid hnf
          have HST := Lib.hid hstep
          obtain ⟨y, hy⟩ : ∃ y, L[k] = y := ⟨_, rfl⟩
          rw [hy] at hc HNF HST
          clear hnf hstep hy hok
          have dk : (((k : Nat) : Int) != (L.length : Int) - 1) = !decide (k + 1 = L.length) := by
            by_cases e : k + 1 = L.length
            · rw [decide_eq_true e]; simp; omega
            · rw [decide_eq_false e]; simp; omega
          by_cases h3 : dotB y = true
          · have HN := Lib.hid (HNF.out (by unfold badP; simp [h3]))
            have HDY : Hid (y = [46] ∨ y = [46, 46]) := by
              show _ ∨ _
              unfold dotB at h3; simpa using h3
            clear h3 dk HNF HST
            rcases HDY.out with h | h
            · have e1 := lit_t h
              clear h HDY
              go_wp2_with fail
              go_ret
              exact ⟨by rw [HN.out]; rfl, G2.out⟩
            · have e1 := lit_t h
              have e2 := lit_f (show y ≠ [46] by rw [h]; simp)
              clear h HDY
              go_wp2_with fail
              go_ret
              exact ⟨by rw [HN.out]; rfl, G2.out⟩
          · have hd : y ≠ [46] ∧ y ≠ [46, 46] := by unfold dotB at h3; simpa using h3
            have e1 := lit_f hd.1
            have e2 := lit_f hd.2
            have h3' : dotB y = false := by simpa using h3
            by_cases hy : y = []
            · obtain ⟨m1, m2⟩ := emp_bs hy
              by_cases hl : k + 1 = L.length
              · have HS := HST.out (by unfold badP; rw [h3', decide_eq_true hl]; simp)
                rw [decide_eq_true hl] at dk
                clear HNF HST hd h3 h3' hy
                go_wp2_with fail
                go_roundw
                case rel => exact ⟨k + 1, by go_num, by omega, trivial, HS⟩
                case measure => simp [intOf]; omega
              · have HN := Lib.hid (HNF.out (by unfold badP; rw [h3', decide_eq_false hl, hy]; rfl))
                rw [decide_eq_false hl] at dk
                clear HNF HST hd h3 h3' hy
                go_wp2_with fail
                go_ret
                exact ⟨by rw [HN.out]; rfl, G2.out⟩
            · obtain ⟨m1, m2⟩ := nemp_bs hy
              have HS := HST.out (by
                have : y.isEmpty = false := by simpa using hy
                unfold badP; rw [h3', this]; rfl)
              clear HNF HST hd h3 h3' hy dk
              go_wp2_with fail
              go_roundw
              case rel => exact ⟨k + 1, by go_num, by omega, trivial, HS⟩
              case measure => simp [intOf]; omega
        · obtain rfl : k = L.length := by omega
          have HN := Lib.hid (norm_true (fun i h => hok.out i h h))
          clear hok
          go_wp2_with fail
          go_ret
          exact ⟨by rw [HN.out]; rfl, G2.out⟩
    · have e : normalT (47 :: t) = false := by unfold normalT; simp; intro h; omega
      rw [e]
      obtain ⟨S, hS⟩ : ∃ S, bs (47 :: t) = S := ⟨_, rfl⟩
      rw [hS] at hz cP ⊢
      simp only [List.length_cons] at hz
      have d2 : decide ((128 : Int) < (t.length : Int) + 1) = true := by simp; omega
      have CP := Lib.hid cP
      clear e hS cP hh
      go_enter Tryz.func72, Tryz.ntmps72
      go_wp2_with fail
      (with_reducible refine (CP.out).mono ?_); rintro e w1 ⟨rfl, rfl⟩
      go_wp2_with fail
      go_ret
      exact ⟨rfl, Below.refl _ _⟩
  · have e : normalT s = false := by unfold normalT; simp [hh]
    rw [e]
    rw [decide_eq_false hh] at cP
    have CP := Lib.hid cP
    clear e cP hh
    go_enter Tryz.func72, Tryz.ntmps72
    go_wp2_with fail
    (with_reducible refine (CP.out).mono ?_); rintro e w1 ⟨rfl, rfl⟩
    go_wp2_with fail
    go_ret
    exact ⟨rfl, Below.refl _ _⟩
/-- a text's last byte is a slash -/
theorem last_cases (s : List UInt8) : s = [] ∨ ∃ u y, s = u ++ [y] := by
  cases s with
  | nil => exact .inl rfl
  | cons x t => exact .inr ⟨(x :: t).dropLast, (x :: t).getLast (by simp), (List.dropLast_concat_getLast (by simp)).symm⟩
set_option maxRecDepth 100000 in
theorem rRoot (s : List UInt8) (w : World) (hs : s.length ≤ 1000000) :
    Calls Tryz.prog 45 #[.string (bs s)] w fun e w' => e = .returned (.bool (rootT s)) ∧ Below w.heap.size w w' := by
  have hz := bs_size s
  by_cases h1 : s = [47]
  · have hr : rootT s = true := by rw [h1]; decide
    have e1 := lit_t h1
    rw [hr]
    clear h1 hr
    go_enter Tryz.func45, Tryz.ntmps45
    go_wp2_with fail
    go_ret
    exact ⟨rfl, Below.refl _ _⟩
  · have e1 := lit_f h1
    have cN := pNormal14 s w hs
    have hr : rootT s = (normalT s && !decide (s.getLast? = some 47)) := by
      unfold rootT
      have : (s == [47]) = false := by rw [beq_eq_false_iff_ne]; exact h1
      rw [this, Bool.false_or]
    rw [hr]
    cases hn : normalT s with
    | false =>
      rw [hn] at cN
      have CN := Lib.hid cN
      clear cN hn hr h1
      go_enter Tryz.func45, Tryz.ntmps45
      go_wp2_with fail
      (with_reducible refine (CN.out).mono ?_); rintro e w1 ⟨rfl, g1⟩
      go_wp2_with fail
      go_ret
      exact ⟨rfl, g1⟩
    | true =>
      rw [hn] at cN
      have CN := Lib.hid cN
      rcases last_cases s with rfl | ⟨u, y, rfl⟩
      · exfalso; revert hn; decide
      · have hl : (u ++ [y]).getLast? = some y := by simp
        rw [hl]
        obtain ⟨S, hS⟩ : ∃ S, bs (u ++ [y]) = S := ⟨_, rfl⟩
        have hk : u.length < S.size := by rw [← hS, hz]; simp
        have hb : S[u.length] = y := by subst hS; show (u ++ [y])[u.length]'(by simp) = y; simp
        rw [hS] at hz CN e1 ⊢
        simp only [List.length_append, List.length_cons, List.length_nil, Nat.zero_add] at hz hs
        have hul : u.length ≤ 1000000 := by omega
        by_cases hy : y = 47
        · subst hy
          clear cN hn hr h1 hl hS hs
          go_enter Tryz.func45, Tryz.ntmps45
          go_wp2_with fail
          (with_reducible refine (CN.out).mono ?_); rintro e w1 ⟨rfl, g1⟩
          go_wp2_with fail
          go_ret
          exact ⟨by simp, g1⟩
        · have hq : ((y.toNat : Int) != 47) = true := by rw [bne_iff_ne]; intro e; exact hy (UInt8.toNat_inj.1 (by show y.toNat = 47; omega))
          have hd : decide (some y = some (47 : UInt8)) = false := by simp [hy]
          rw [hd]
          clear cN hn hr h1 hl hS hs hd hy
          go_enter Tryz.func45, Tryz.ntmps45
          go_wp2_with fail
          (with_reducible refine (CN.out).mono ?_); rintro e w1 ⟨rfl, g1⟩
          go_wp2_with fail
          go_ret
          exact ⟨rfl, g1⟩
end Go.Proofs.YthhlnpfcpgfcfaaGreatDoor
