/-
  The reference of tokens (waypostref05): List, Holds.
-/
import Derived.Test.YtepemdmjbfoiaaaDoorTr5
import Derived.Test.YtepemdmjbfoiaaaDoorTk6
import Derived.Test.YtepemdmjbfoiaaaDoorKt1
import Derived.Test.YtepemdmjbfoiaaaDoorOw
namespace Go.Proofs.YtepemdmjbfoiaaaDoor
open Go.RowKit

/-- how far the reference has come: pre: the elements behind which it is; f: where the one at hand begins; k: where it stands -/
def RL (l : List UInt8) (pre : List (List UInt8)) (f k : Nat) : Prop :=
  if k ≤ l.length then f ≤ k ∧ splitC 44 l = pre ++ splitC 44 (l.drop f) ∧ ∀ b ∈ (l.drop f).take (k - f), b ≠ 44 else splitC 44 l = pre
theorem RL_start (l : List UInt8) : RL l [] 0 0 := by simp [RL]
theorem RL_on {l : List UInt8} {pre : List (List UInt8)} {f k : Nat} (h : RL l pre f k) (hk : k < l.length) (hne : l[k] ≠ 44) : RL l pre f (k + 1) := by
  unfold RL at h ⊢
  rw [if_pos (by omega)] at h
  rw [if_pos (by omega)]
  obtain ⟨h1, h2, h3⟩ := h
  refine ⟨by omega, h2, ?_⟩
  rw [show k + 1 - f = (k - f) + 1 by omega, List.take_succ_eq_append_getElem (by simp; omega)]
  intro b hb
  rcases List.mem_append.1 hb with hb | hb
  · exact h3 b hb
  · rw [List.mem_singleton.1 hb, List.getElem_drop]
    simpa [show f + (k - f) = k by omega] using hne
theorem RL_cut {l : List UInt8} {pre : List (List UInt8)} {f k : Nat} (h : RL l pre f k) (hk : k ≤ l.length) (hc : ∀ h : k < l.length, l[k] = 44) : RL l (pre ++ [(l.drop f).take (k - f)]) (k + 1) (k + 1) := by
  unfold RL at h ⊢
  rw [if_pos hk] at h
  obtain ⟨h1, h2, h3⟩ := h
  by_cases hlt : k < l.length
  · rw [if_pos (by omega)]
    refine ⟨by omega, ?_, by simp⟩
    have e : l.drop f = (l.drop f).take (k - f) ++ 44 :: l.drop (k + 1) := by
      conv => lhs; rw [← List.take_append_drop (k - f) (l.drop f)]
      rw [List.drop_drop, show f + (k - f) = k by omega]
      congr 1
      rw [List.drop_eq_getElem_cons hlt, hc hlt]
    have hs : splitC 44 (l.drop f) = (l.drop f).take (k - f) :: splitC 44 (l.drop (k + 1)) := by
      conv => lhs; rw [e]
      exact split_at 44 _ _ h3
    rw [h2, hs]; simp
  · rw [if_neg (by omega), h2]
    congr 1
    have e : (l.drop f).take (k - f) = l.drop f := List.take_of_length_le (by simp; omega)
    rw [e] at h3 ⊢
    exact split_none 44 _ h3
theorem RL_end {l : List UInt8} {pre : List (List UInt8)} {f k : Nat} (h : RL l pre f k) (hk : l.length < k) : splitC 44 l = pre := by
  unfold RL at h; rwa [if_neg (by omega)] at h
theorem RL_len {l : List UInt8} {pre : List (List UInt8)} {f k : Nat} (h : RL l pre f k) : pre.length ≤ l.length + 1 := by
  have hs := (splitC_len 44 l).1
  unfold RL at h
  split at h
  · have := congrArg List.length h.2.1
    simp at this; omega
  · rw [h] at hs; exact hs
theorem RL_pre {l : List UInt8} {pre : List (List UInt8)} {f k : Nat} (h : RL l pre f k) : ∃ r, splitC 44 l = pre ++ r := by
  unfold RL at h
  split at h
  · exact ⟨_, h.2.1⟩
  · exact ⟨[], by simpa using h⟩
def pickL (pre : List (List UInt8)) : List (List UInt8) := pre.filterMap pickE
theorem pickL_some {pre : List (List UInt8)} {y z : List UInt8} (h : pickE y = some z) : pickL (pre ++ [y]) = pickL pre ++ [z] := by simp [pickL, h]
theorem pickL_none {pre : List (List UInt8)} {y : List UInt8} (h : pickE y = none) : pickL (pre ++ [y]) = pickL pre := by simp [pickL, h]
theorem any_app_true {pre r : List (List UInt8)} {y : List UInt8} (h : badE y = true) : ((pre ++ [y]) ++ r).any badE = true := by simp [h]

theorem rList_early (s : ByteArray) (w : World) (hs : s.size ≤ 1000000) (h : 1024 < s.size ∨ s.size ≤ 1024 ∧ isVal s.data.toList = false) :
    Calls Tryd.prog 36 #[.string s] w (ListPost (listT s.data.toList) w) := by
  rcases h with h | ⟨h, hv⟩
  · have e : listT s.data.toList = ([], 4) := by unfold listT; rw [size_l, if_pos h]
    rw [e]
    have hd : decide ((1024 : Int) < (s.size : Int)) = true := by simp; omega
    clear e
    go_enter Tryd.func36, Tryd.ntmps36
    go_wp2_with fail
    go_ret2
    exact ⟨none, 0, rfl, Reads.none_, Below.refl _ _⟩
  · have e : listT s.data.toList = ([], 3) := by unfold listT; rw [size_l, if_neg (by omega), if_pos hv]
    rw [e]
    have hd : decide ((1024 : Int) < (s.size : Int)) = false := by simp; omega
    have cV := fun w => rValue s w (by omega)
    rw [hv] at cV
    have CV := Lib.hid cV
    clear e cV hv
    go_enter Tryd.func36, Tryd.ntmps36
    go_wp2_with fail
    (with_reducible refine (CV.out _).mono ?_); rintro e w1 ⟨rfl, rfl⟩
    go_wp2_with fail
    go_ret2
    exact ⟨none, 0, rfl, Reads.none_, Below.refl _ _⟩

set_option maxRecDepth 100000 in
set_option maxHeartbeats 4000000 in
theorem rList_main (s : ByteArray) (w : World) (hs : s.size ≤ 1024) (h : isVal s.data.toList = true) :
    Calls Tryd.prog 36 #[.string s] w (ListPost (listT s.data.toList) w) := by
  have hT : listT s.data.toList = if (splitC 44 s.data.toList).any badE then ([], 3) else ((splitC 44 s.data.toList).filterMap pickE, 0) := by
    unfold listT; rw [size_l, if_neg (by omega), h, if_neg (by simp)]
  obtain ⟨T, hTT⟩ : ∃ T, listT s.data.toList = T := ⟨_, rfl⟩
  rw [hTT] at hT ⊢
  have HT := Lib.hid hT
  have hd : decide ((1024 : Int) < (s.size : Int)) = false := by simp; omega
  have cV := fun w => rValue s w (by omega)
  rw [h] at cV
  have CV := Lib.hid cV
  have CT := Lib.hid rTrim
  have CI := Lib.hid rIs
  have CL := Lib.hid rLower
  obtain ⟨i0, hi, hz0, hz1, hz2⟩ := info_parts infoStr
  have HI := Lib.hid (And.intro hi (And.intro hz0 (And.intro hz1 hz2)))
  clear cV h hT hTT hi hz0 hz1 hz2
  go_enter Tryd.func36, Tryd.ntmps36
  go_wp2_with fail
  (with_reducible refine (CV.out _).mono ?_); rintro e w1 ⟨rfl, rfl⟩
  go_wp2_with fail
  go_loopw [4, 5, 6] (fun o f i wr => ∃ (pre : List (List UInt8)) (kf k : Nat), f = .int .i64 kf ∧ i = .int .i64 k ∧ k ≤ s.size + 1 ∧ Hid (RL s.data.toList pre kf k) ∧ Hid (∀ y ∈ pre, badE y = false) ∧
    Hid (wr.ownsRow w.heap.size 9 1 o (pickL pre).length (strs (pickL pre))) ∧ Below w.heap.size w wr) (fun _ _ i _ => s.size + 1 - (intOf i).toNat)
  case atStart => exact ⟨[], 0, 0, rfl, rfl, by omega, RL_start _, hide (by simp), World.ownsRow_nil _ _ _ _, Below.refl _ _⟩
  case round =>
    obtain ⟨pre, kf, k, rfl, rfl, hk, HR, HB, HO, hb⟩ := hrel
    rename World => W0
    by_cases hle : k ≤ s.size
    · have hfk : kf ≤ k := by
        have := HR.out; unfold RL at this; rw [if_pos (by rw [size_l]; exact hle)] at this; exact this.1
      by_cases hc : ∃ h : k < s.size, s[k] ≠ 44
      · obtain ⟨hlt, hne⟩ := hc
        have hq : ((s[k].toNat : Int) != 44) = true := by
          rw [bne_iff_ne]; intro e; exact hne (UInt8.toNat_inj.1 (by show s[k].toNat = 44; omega))
        have HN : Hid (RL s.data.toList pre kf (k + 1)) := RL_on HR.out (by rw [size_l]; exact hlt) hne
        clear hne
        go_wp2_with fail
        go_roundw
        case rel => exact ⟨pre, kf, k + 1, rfl, by go_num, by omega, HN, HB, HO, hb⟩
        case measure => simp [intOf]; omega
      · have hcc : ∀ h : k < s.data.toList.length, s.data.toList[k] = 44 := fun h => by
          refine Classical.byContradiction fun hne => hc ⟨by rw [size_l] at h; exact h, hne⟩
        have HN : Hid (RL s.data.toList (pre ++ [(s.data.toList.drop kf).take (k - kf)]) (k + 1) (k + 1)) := RL_cut HR.out (by rw [size_l]; exact hle) hcc
        have hguard : k < s.size → ∀ h : k < s.size, ((s[k].toNat : Int) != 44) = false := fun _ h => by
          have e : s[k] = 44 := hcc (by rw [size_l]; exact h)
          rw [e]; rfl
        obtain ⟨y, hy⟩ : ∃ y, (s.data.toList.drop kf).take (k - kf) = y := ⟨_, rfl⟩
        have hex : s.extract kf k = bs y := ba_ext (by rw [extract_list, ← hy, bs_list, List.take_drop, show kf + (k - kf) = k by omega])
        rw [hy] at HN
        have hyl : y.length ≤ 1024 := by rw [← hy, List.length_take, List.length_drop, size_l]; omega
        have htl := trimL_le y
        have cT := fun w => CT.out (bs y) w (by rw [bs_size]; omega)
        rw [show tr (bs y) = bs (trimL y) from rfl] at cT
        have cI := fun w => CI.out (bs (trimL y)) w (by rw [bs_size]; omega)
        rw [bs_list] at cI
        have cL := fun w => CL.out (bs (trimL y)) w (by rw [bs_size]; omega)
        rw [show low (bs (trimL y)) = bs (lowL (trimL y)) from rfl] at cL
        have hplen : (pickL pre).length ≤ 1100 := by
          have h1 := RL_len HR.out
          have h2 := List.length_filterMap_le pickE pre
          rw [size_l] at h1
          unfold pickL; omega
        have CT' := Lib.hid cT
        have CL' := Lib.hid cL
        have HEX := Lib.hid hex
        clear cT cL hex hy hcc hc
        have hgu : (k < s.size ∧ ∀ h : k < s.size, ((s[k].toNat : Int) != 44) = false) ∨ k = s.size := by
          rcases Nat.lt_or_ge k s.size with h | h
          · exact .inl ⟨h, hguard h⟩
          · exact .inr (by omega)
        clear hguard
        by_cases hem : trimL y = []
        · have e1 : (bs (trimL y)).toList.isEmpty = true := by rw [Lib.toList_data, bs_list, hem]; rfl
          have HB' : Hid (∀ z ∈ pre ++ [y], badE z = false) := by
            intro z hz
            rcases List.mem_append.1 hz with hz | hz
            · exact HB.out z hz
            · rw [List.mem_singleton.1 hz]; simp [badE, hem]
          have HO' : Hid (W0.ownsRow w.heap.size 9 1 u4 (pickL (pre ++ [y])).length (strs (pickL (pre ++ [y])))) := by
            show W0.ownsRow _ _ _ _ _ _
            rw [pickL_none (by simp [pickE, hem])]; exact HO.out
          clear cI hem
          rcases hgu with ⟨hlt, hg⟩ | rfl
          all_goals (
            first
              | (have hg' := hg hlt; clear hg)
              | have hg' : decide ((s.size : Int) < (s.size : Int)) = false := by simp
            go_wp2_with fail
            rw [HEX.out]
            (with_reducible refine (CT'.out _).mono ?_); rintro e w2 ⟨rfl, rfl⟩
            go_wp2_with fail
            go_roundw
            case rel => first | exact ⟨pre ++ [y], k + 1, k + 1, by go_num, by go_num, by omega, HN, HB', HO', hb⟩ | exact ⟨pre ++ [y], s.size + 1, s.size + 1, by go_num, by go_num, by omega, HN, HB', HO', hb⟩
            case measure => simp [intOf]; try omega)
        · have e1 : (bs (trimL y)).toList.isEmpty = false := by rw [Lib.toList_data, bs_list]; simpa using hem
          rcases Bool.eq_false_or_eq_true (isTok (trimL y)) with ht | ht
          · have HB' : Hid (∀ z ∈ pre ++ [y], badE z = false) := by
              intro z hz
              rcases List.mem_append.1 hz with hz | hz
              · exact HB.out z hz
              · rw [List.mem_singleton.1 hz]; simp [badE, ht]
            have HPK := Lib.hid (pickL_some (pre := pre) (show pickE y = some (lowL (trimL y)) by simp [pickE, hem]))
            rw [ht] at cI
            have CI' := Lib.hid cI
            clear cI ht hem
            rcases hgu with ⟨hlt, hg⟩ | rfl
            all_goals (
              first
                | (have hg' := hg hlt; clear hg)
                | have hg' : decide ((s.size : Int) < (s.size : Int)) = false := by simp
              go_wp2_with fail
              rw [HEX.out]
              (with_reducible refine (CT'.out _).mono ?_); rintro e w2 ⟨rfl, rfl⟩
              go_wp2_with fail
              (with_reducible refine (CI'.out _).mono ?_); rintro e w2 ⟨rfl, rfl⟩
              go_wp2_with fail
              (with_reducible refine (CL'.out _).mono ?_); rintro e w3 ⟨rfl, hb3⟩
              have hb3' := hb.trans (hb3.mono hb.size)
              have o3 := own_below HO.out hb3
              obtain ⟨i1, i2, i3, i4⟩ := HI.out
              obtain ⟨v', w5, hrun, hown, hg5, hlt5, hor⟩ := app_one (P := Tryd.prog) 24 24 9 i0 (.string .empty) 1 16 Tryd.underlying24 i1 i2 i3 i4 rfl (by decide) w.heap.size w3 u4 _ _ o3 #[.string (bs (lowL (trimL y)))] rfl (by intro u hu; simp at hu; subst hu; rfl) 9 (by unfold maxLen; omega) (by omega) hb3'.size
              have hb5 : Below w.heap.size w w5 := hb3'.grown hg5 hb3'.size (own_ge o3)
              have HO' : Hid (w5.ownsRow w.heap.size 9 1 v' (pickL (pre ++ [y])).length (strs (pickL (pre ++ [y])))) := by
                show w5.ownsRow _ _ _ _ _ _
                rw [HPK.out, strs_app, List.length_append]; exact hown
              have HRUN := Lib.hid hrun
              clear hrun hown hg5 hor o3 hb3 hb3' i1 i2 i3 i4
              go_wp2_with (at_builtin; refine wpList_append_run HRUN.out rfl _ _ rfl rfl rfl rfl ?_)
              go_roundw
              case rel => first | exact ⟨pre ++ [y], k + 1, k + 1, by go_num, by go_num, by omega, HN, HB', HO', hb5⟩ | exact ⟨pre ++ [y], s.size + 1, s.size + 1, by go_num, by go_num, by omega, HN, HB', HO', hb5⟩
              case measure => simp [intOf]; try omega)
          · have hbad : badE y = true := by simp [badE, hem, ht]
            have hTe : T = ([], 3) := by
              obtain ⟨r, hr⟩ := RL_pre HN.out
              rw [HT.out, hr, any_app_true hbad, if_pos rfl]
            subst hTe
            rw [ht] at cI
            have CI' := Lib.hid cI
            clear cI ht hem hbad
            rcases hgu with ⟨hlt, hg⟩ | rfl
            all_goals (
              first
                | (have hg' := hg hlt; clear hg)
                | have hg' : decide ((s.size : Int) < (s.size : Int)) = false := by simp
              go_wp2_with fail
              rw [HEX.out]
              (with_reducible refine (CT'.out _).mono ?_); rintro e w2 ⟨rfl, rfl⟩
              go_wp2_with fail
              (with_reducible refine (CI'.out _).mono ?_); rintro e w2 ⟨rfl, rfl⟩
              go_wp2_with fail
              go_ret2
              exact ⟨none, 0, rfl, Reads.none_, hb⟩)
    · have hkl : k = s.size + 1 := by omega
      subst hkl
      have hd2 : decide (((s.size + 1 : Nat) : Int) ≤ (s.size : Int)) = false := by simp; omega
      have hTe : T = (pickL pre, 0) := by
        have he := RL_end HR.out (by rw [size_l]; omega)
        have hn : pre.any badE = false := by
          rw [List.any_eq_false]; intro z hz; rw [HB.out z hz]; simp
        rw [HT.out, he, hn, if_neg (by simp)]; rfl
      subst hTe
      obtain ⟨A, cap, rfl⟩ := own_slice HO.out
      go_wp2_with fail
      go_ret2
      exact ⟨A, cap, rfl, Reads.of_own HO.out, hb⟩

theorem rList_any (s : ByteArray) (w : World) (hs : s.size ≤ 1000000) : Calls Tryd.prog 36 #[.string s] w (ListPost (listT s.data.toList) w) := by
  by_cases h : 1024 < s.size
  · exact rList_early s w hs (.inl h)
  · rcases Bool.eq_false_or_eq_true (isVal s.data.toList) with hv | hv
    · exact rList_main s w (by omega) hv
    · exact rList_early s w hs (.inr ⟨by omega, hv⟩)

theorem contains_any (L : List (List UInt8)) (t : List UInt8) (hl : ∀ x ∈ L, lowL x = x) : L.contains (lowL t) = L.any fun x => lowL x == lowL t := by
  rw [Bool.eq_iff_iff, List.contains_iff_mem, List.any_eq_true]
  constructor
  · intro h; exact ⟨_, h, by rw [lowL_low]; simp⟩
  · rintro ⟨x, hx, he⟩
    rw [beq_iff_eq, hl x hx] at he
    rw [← he]; exact hx

set_option maxRecDepth 100000 in
set_option maxHeartbeats 4000000 in
theorem rHolds (s t : ByteArray) (w : World) (hs : s.size ≤ 1000000) (ht : t.size ≤ 1000000) :
    Calls Tryd.prog 37 #[.string s, .string t] w fun e w' => e = .returned (.tuple #[.bool (holdsT s.data.toList t.data.toList).1, .int .i64 (holdsT s.data.toList t.data.toList).2]) ∧ Below w.heap.size w w' := by
  obtain ⟨hlen, hxl⟩ := listT_len s.data.toList
  have hlow := listT_low s.data.toList
  have cL := fun w => rList_any s w hs
  have hH : holdsT s.data.toList t.data.toList = if (listT s.data.toList).2 ≠ 0 then (false, (listT s.data.toList).2) else if isTok t.data.toList = false then (false, 3) else ((listT s.data.toList).1.contains (lowL t.data.toList), 0) := rfl
  rw [hH, contains_any _ _ hlow]
  clear hH
  obtain ⟨L, e, hL⟩ : ∃ L e, listT s.data.toList = (L, e) := ⟨_, _, rfl⟩
  rw [hL] at cL hlen hxl hlow ⊢
  simp only at hlen hxl hlow ⊢
  have CL := Lib.hid cL
  have cI := fun w => rIs t w (by omega)
  clear cL hL
  by_cases he : e = 0
  · subst he
    rw [if_neg (by simp)]
    have e1 : (((0 : Nat) : Int) != 0) = false := rfl
    rcases Bool.eq_false_or_eq_true (isTok t.data.toList) with hk | hk
    · rw [hk] at cI ⊢
      rw [if_neg (by simp)]
      obtain ⟨R, hR⟩ : ∃ R, (L.any fun x => lowL x == lowL t.data.toList) = R := ⟨_, rfl⟩
      rw [hR]
      have HRR := Lib.hid hR
      have CI := Lib.hid cI
      have HXL := Lib.hid hxl
      clear cI hk hR hxl hlow
      go_enter Tryd.func37, Tryd.ntmps37
      go_wp2_with fail
      (with_reducible refine (CL.out _).mono ?_); rintro e w1 ⟨A, cap, rfl, hr, hb1⟩
      simp only at hr
      have HR := Lib.hid hr
      clear hr
      go_wp2_with fail
      (with_reducible refine (CI.out _).mono ?_); rintro e w2 ⟨rfl, rfl⟩
      go_wp2_with fail
      go_loopw [8] (fun i wr => ∃ k : Nat, i = .int .i64 k ∧ k ≤ L.length ∧ Hid (∀ x ∈ L.take k, (lowL x == lowL t.data.toList) = false) ∧ Below w1.heap.size w1 wr) (fun i _ => L.length - (intOf i).toNat)
      case atStart => exact ⟨0, rfl, by omega, hide (by simp), Below.refl _ _⟩
      case round =>
        obtain ⟨k, rfl, hk, HT, hb⟩ := hrel
        rename World => W0
        by_cases hlt : k < L.length
        · obtain ⟨b, o, rfl, hbl, hcell⟩ := HR.out.text k hlt
          have hc0 := (hb.cell (p := ⟨b, o + k, none⟩) hbl).trans hcell
          obtain ⟨x, hxk⟩ : ∃ x, L[k] = x := ⟨_, rfl⟩
          have hx := HXL.out L[k] (List.getElem_mem hlt)
          rw [hxk] at hc0 hx
          have cS := fun w => rSame (bs x) t w (by rw [bs_size]; omega) (by omega)
          rw [bs_list] at cS
          have HXK := Lib.hid hxk
          clear hcell hxk
          rcases Bool.eq_false_or_eq_true (lowL x == lowL t.data.toList) with hq | hq
          · rw [hq] at cS
            have CS := Lib.hid cS
            have hres : R = true := by
              rw [← HRR.out, List.any_eq_true]; exact ⟨L[k], List.getElem_mem hlt, by rw [HXK.out]; exact hq⟩
            subst hres
            clear cS hq
            go_wp2_with fail
            (with_reducible refine (CS.out _).mono ?_); rintro e w3 ⟨rfl, hb3⟩
            go_wp2_with fail
            go_ret2
            exact ⟨rfl, (hb1.trans (hb.mono hb1.size)).trans (hb3.mono (Nat.le_trans hb1.size hb.size))⟩
          · rw [hq] at cS
            have CS := Lib.hid cS
            have HT' : Hid (∀ x ∈ L.take (k + 1), (lowL x == lowL t.data.toList) = false) := by
              rw [List.take_succ_eq_append_getElem hlt]
              intro y hy
              rcases List.mem_append.1 hy with hy | hy
              · exact HT.out y hy
              · rw [List.mem_singleton.1 hy, HXK.out]; exact hq
            clear cS hq
            go_wp2_with fail
            (with_reducible refine (CS.out _).mono ?_); rintro e w3 ⟨rfl, hb3⟩
            go_wp2_with fail
            go_roundw
            case rel => exact ⟨k + 1, by go_num, by omega, HT', hb.trans (hb3.mono hb.size)⟩
            case measure => simp [intOf]; omega
        · have hkl : k = L.length := by omega
          subst hkl
          have hd : decide ((L.length : Int) < (L.length : Int)) = false := by simp
          have hres : R = false := by
            rw [← HRR.out, List.any_eq_false]; intro x hx; rw [HT.out x (by rw [List.take_length]; exact hx)]; simp
          subst hres
          go_wp2_with fail
          go_ret2
          exact ⟨rfl, hb1.trans (hb.mono hb1.size)⟩
    · rw [hk] at cI ⊢
      rw [if_pos rfl]
      have CI := Lib.hid cI
      clear cI hk hxl hlow
      go_enter Tryd.func37, Tryd.ntmps37
      go_wp2_with fail
      (with_reducible refine (CL.out _).mono ?_); rintro e w1 ⟨A, cap, rfl, hr, hb1⟩
      clear hr
      go_wp2_with fail
      (with_reducible refine (CI.out _).mono ?_); rintro e w2 ⟨rfl, rfl⟩
      go_wp2_with fail
      go_ret2
      exact ⟨rfl, hb1⟩
  · rw [if_pos he]
    have e2 : ((e : Int) != 0) = true := by rw [bne_iff_ne]; omega
    clear cI hxl hlow
    go_enter Tryd.func37, Tryd.ntmps37
    go_wp2_with fail
    (with_reducible refine (CL.out _).mono ?_); rintro e w1 ⟨A, cap, rfl, hr, hb1⟩
    clear hr
    go_wp2_with fail
    go_ret2
    exact ⟨rfl, hb1⟩
end Go.Proofs.YtepemdmjbfoiaaaDoor
