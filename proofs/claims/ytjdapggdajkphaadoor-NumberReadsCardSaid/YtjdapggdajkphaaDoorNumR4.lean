/-
  The reference's Same: the walk of its four loops.
-/
import Derived.Test.YtjdapggdajkphaaDoorNumR3
import Derived.Test.YtjdapggdajkphaaDoorNumQ
namespace Go.Proofs.YtjdapggdajkphaaDoor
open Go.RowKit

/-- the pieces done, the piece begun, and what the rest is cut into -/
def joinH (cur : List UInt8) : List (List UInt8) → List (List UInt8)
  | [] => [cur]
  | h :: t => (cur ++ h) :: t
theorem joinH_comma (cur l : List UInt8) (c : UInt8) : joinH cur (splitC c (c :: l)) = cur :: splitC c l := by
  rw [splitC, if_pos rfl]; simp [joinH]
theorem joinH_nil (c : UInt8) (l : List UInt8) : joinH [] (splitC c l) = splitC c l := by
  cases h : splitC c l with
  | nil => exact absurd h (splitC_ne c l)
  | cons a t => rfl
theorem joinH_other (cur l : List UInt8) (b c : UInt8) (hb : b ≠ c) : joinH cur (splitC c (b :: l)) = joinH (cur ++ [b]) (splitC c l) := by
  cases h : splitC c l with
  | nil => exact absurd h (splitC_ne c l)
  | cons a t => rw [splitC_step c b l a t hb h]; simp [joinH]
theorem ext_list (s : ByteArray) (a b : Nat) (_hab : a ≤ b) (_hb : b ≤ s.size) : (s.extract a b).data.toList = (s.data.toList.take b).drop a := by
  rw [Lib.extract_data, List.take_drop]
  try (congr 2; omega)
theorem ext_snoc (s : ByteArray) (a k : Nat) (hab : a ≤ k) (hk : k < s.size) : (s.extract a (k + 1)).data.toList = (s.extract a k).data.toList ++ [s[k]] := by
  have hl : k < s.data.toList.length := by rw [size_l]; exact hk
  rw [ext_list s a (k + 1) (by omega) (by omega), ext_list s a k hab (by omega), List.take_succ_eq_append_getElem hl, List.drop_append_of_le_length (by simp; omega)]
  rfl
theorem drop_list (s : ByteArray) (k : Nat) (hk : k < s.size) : s.data.toList.drop k = s[k] :: s.data.toList.drop (k + 1) := by
  rw [List.drop_eq_getElem_cons (by rw [size_l]; exact hk)]; rfl
/-- the state of the cutting loop -/
def CutInv (c : UInt8) (s : ByteArray) (k fr : Nat) (D : List (List UInt8)) : Prop :=
  (k ≤ s.size ∧ fr ≤ k ∧ splitC c s.data.toList = D ++ joinH (s.extract fr k).data.toList (splitC c (s.data.toList.drop k))) ∨ (k = s.size + 1 ∧ splitC c s.data.toList = D)
theorem CutInv.start (c : UInt8) (s : ByteArray) : CutInv c s 0 0 [] := .inl ⟨Nat.zero_le _, Nat.le_refl _, by
  have : (s.extract 0 0).data.toList = [] := by rw [ext_list s 0 0 (Nat.le_refl _) (Nat.zero_le _)]; rfl
  rw [this, List.nil_append, List.drop_zero, joinH_nil]⟩
theorem CutInv.comma {c : UInt8} {s : ByteArray} {k fr : Nat} {D : List (List UInt8)} (h : CutInv c s k fr D) (hk : k < s.size) (hb : s[k] = c) : CutInv c s (k + 1) (k + 1) (D ++ [(s.extract fr k).data.toList]) := by
  rcases h with ⟨_, hf, h⟩ | ⟨h, _⟩
  · refine .inl ⟨by omega, Nat.le_refl _, ?_⟩
    have e0 : (s.extract (k + 1) (k + 1)).data.toList = [] := by rw [ext_list s _ _ (Nat.le_refl _) (by omega)]; simp
    rw [h, drop_list s k hk, hb, joinH_comma, e0, joinH_nil]
    simp
  · omega
theorem CutInv.other {c : UInt8} {s : ByteArray} {k fr : Nat} {D : List (List UInt8)} (h : CutInv c s k fr D) (hk : k < s.size) (hb : s[k] ≠ c) : CutInv c s (k + 1) fr D := by
  rcases h with ⟨_, hf, h⟩ | ⟨h, _⟩
  · refine .inl ⟨by omega, by omega, ?_⟩
    rw [h, drop_list s k hk, joinH_other _ _ _ _ hb, ext_snoc s fr k hf hk]
  · omega
theorem CutInv.last {c : UInt8} {s : ByteArray} {fr : Nat} {D : List (List UInt8)} (h : CutInv c s s.size fr D) : CutInv c s (s.size + 1) (s.size + 1) (D ++ [(s.extract fr s.size).data.toList]) := by
  rcases h with ⟨_, hf, h⟩ | ⟨h, _⟩
  · refine .inr ⟨rfl, ?_⟩
    rw [h, List.drop_eq_nil_of_le (by rw [size_l]; exact Nat.le_refl _)]
    simp [splitC, joinH]
  · omega
theorem CutInv.done {c : UInt8} {s : ByteArray} {k fr : Nat} {D : List (List UInt8)} (h : CutInv c s k fr D) (hk : s.size < k) : splitC c s.data.toList = D := by
  rcases h with ⟨h1, _⟩ | ⟨_, h⟩
  · omega
  · exact h
theorem CutInv.le {c : UInt8} {s : ByteArray} {k fr : Nat} {D : List (List UInt8)} (h : CutInv c s k fr D) (hk : k ≤ s.size) : fr ≤ k := by
  rcases h with ⟨_, h, _⟩ | ⟨h, _⟩
  · exact h
  · omega
/-- the cells of a list of texts, each trimmed -/
def trimCells (D : List (List UInt8)) : List Value := D.map fun x => Value.string ⟨(trimL x).toArray⟩
theorem trimCells_snoc (D : List (List UInt8)) (p : ByteArray) : trimCells (D ++ [p.data.toList]) = trimCells D ++ [Value.string (tr p)] := by simp [trimCells, tr]
theorem info_str : (Tryd.prog.info? 9).map (fun i => (i.zero, i.size, i.bytes)) = some (some (.string ByteArray.empty), 1, 16) := by kernel_rfl
theorem own_below {w w' : World} {base : Nat} {e : TypeId} {size n : Nat} {v : Value} {xs : List Value} (h : w.ownsRow base e size v n xs) (hb : Below w.heap.size w w') : w'.ownsRow base e size v n xs :=
  h.kept (only_of_below hb none) (by cases v.ownBlock <;> simp)
theorem own_drewN {w : World} {base : Nat} {e : TypeId} {size n : Nat} {v : Value} {xs : List Value} (h : w.ownsRow base e size v n xs) (k : Nat) : (w.drewN k).ownsRow base e size v n xs := own_below h (below_drewN (Below.refl _ _) k)

/-- the cells while the third loop runs: the first k written anew -/
def cells3 (E : List (List UInt8)) (digits : Int) (most k : Nat) : List Value := (E.take k).map (fun x => Value.string ⟨(Lib.decDigits (rdN false x digits most).1).toArray⟩) ++ (E.drop k).map fun x => Value.string ⟨x.toArray⟩
theorem cells3_zero (E : List (List UInt8)) (digits : Int) (most : Nat) : cells3 E digits most 0 = E.map fun x => Value.string ⟨x.toArray⟩ := by simp [cells3]
theorem cells3_at (E : List (List UInt8)) (digits : Int) (most k : Nat) (h : k < E.length) : (cells3 E digits most k)[k]? = some (.string ⟨E[k].toArray⟩) := by
  unfold cells3
  rw [List.getElem?_append_right (by simp; omega)]
  simp only [List.length_map, List.length_take, List.getElem?_map, List.getElem?_drop]
  rw [show k + (k - min k E.length) = k by omega, List.getElem?_eq_getElem h]
  rfl
theorem cells3_step (E : List (List UInt8)) (digits : Int) (most k : Nat) (h : k < E.length) (a : Nat) (ha : (rdN false E[k] digits most).1 = a) : (cells3 E digits most k).set k (.string ⟨(Lib.decDigits a).toArray⟩) = cells3 E digits most (k + 1) := by
  unfold cells3
  rw [List.drop_eq_getElem_cons h, List.map_cons, List.take_succ_eq_append_getElem h, List.map_append, List.append_assoc]
  rw [List.set_append_right _ _ (by simp; omega)]
  congr 1
  rw [show k - ((E.take k).map fun x => Value.string ⟨(Lib.decDigits (rdN false x digits most).1).toArray⟩).length = 0 by simp; omega]
  simp [ha]
theorem cells3_all (E : List (List UInt8)) (digits : Int) (most j : Nat) (h : j < E.length) : (cells3 E digits most E.length)[j]? = some (.string ⟨(Lib.decDigits (rdN false E[j] digits most).1).toArray⟩) := by
  simp [cells3, h]
theorem rdN_lt (hex : Bool) (l : List UInt8) (digits : Int) (most : Nat) : (rdN hex l digits most).1 < 18446744073709551616 := by
  unfold rdN
  split
  · simp
  · split
    · simp
    · split
      · simp
      · rename_i h; simp only; omega
theorem decDigits_inj {a b : Nat} (h : Lib.decDigits a = Lib.decDigits b) : a = b := by
  have h1 := (dec_facts a).2.1
  have h2 := (dec_facts b).2.1
  rw [h] at h1
  omega

set_option maxRecDepth 100000 in
set_option maxHeartbeats 4000000 in
theorem refSame (s : ByteArray) (digits : Int) (most : Nat) (w : World) (hs : s.size ≤ 100000) :
    Calls Tryd.prog 26 #[.string s, .int .i64 digits, .int .u64 most] w fun e w' =>
      e = .returned (.tuple #[.int .u64 (sameR ((splitC 44 s.data.toList).map trimL) digits most).1, .int .i64 (sameR ((splitC 44 s.data.toList).map trimL) digits most).2]) ∧ Below w.heap.size w w' := by
  obtain ⟨R, hR⟩ : ∃ R, sameR ((splitC 44 s.data.toList).map trimL) digits most = R := ⟨_, rfl⟩
  rw [hR]
  have HR := Lib.hid hR
  clear hR
  obtain ⟨i0, hi, hz0, hz1, hz2⟩ := info_parts info_str
  have HI := Lib.hid hi
  have HZ0 := Lib.hid hz0
  have HZ1 := Lib.hid hz1
  have HZ2 := Lib.hid hz2
  clear hi hz0 hz1 hz2
  go_enter Tryd.func26, Tryd.ntmps26
  go_wp2_with fail
  go_loopw [8, 9, 10] (fun v f i wr => ∃ (k fr : Nat) (D : List (List UInt8)), i = .int .i64 k ∧ f = .int .i64 fr ∧ k ≤ s.size + 1 ∧ fr ≤ s.size + 1 ∧ D.length ≤ k ∧ Hid (CutInv 44 s k fr D) ∧ Hid (wr.ownsRow w.heap.size 9 1 v D.length (trimCells D)) ∧ Below w.heap.size w wr) (fun _ _ i _ => s.size + 1 - (intOf i).toNat)
  case atStart => exact ⟨0, 0, [], rfl, rfl, by omega, by omega, Nat.le_refl _, CutInv.start 44 s, World.ownsRow_nil _ _ _ _, Below.refl _ _⟩
  case round =>
    obtain ⟨k, fr, D, rfl, rfl, hk, hfr, hD, HC, HO, hb⟩ := hrel
    rename World => W0
    by_cases hle : k ≤ s.size
    · have hfk := HC.out.le hle
      obtain ⟨p, hp⟩ : ∃ p, s.extract fr k = p := ⟨_, rfl⟩
      have hps : p.size ≤ 100000 := by rw [← hp, ByteArray.size_extract]; omega
      have TR := Lib.hid (fun w => reftrim p w (by omega))
      obtain ⟨q, hq⟩ : ∃ q, tr p = q := ⟨_, rfl⟩
      have hmx : D.length + 1 ≤ maxLen := by simp only [maxLen]; omega
      obtain ⟨v', w3, hrun, hown, hgr, hsz3, hat⟩ := app_one (P := Tryd.prog) 39 39 9 i0 (.string ByteArray.empty) 1 16 Tryd.underlying39 HI.out HZ0.out HZ1.out HZ2.out rfl (by decide) w.heap.size W0 u8 D.length _ HO.out #[.string q] rfl (by simp [Value.oneCell']) 9 hmx (by omega) hb.size
      have hb3 : Below w.heap.size w w3 := hb.grown hgr hb.size (fun b h => (HO.out.lt _ h).1)
      have HO3 : Hid (w3.ownsRow w.heap.size 9 1 v' (D ++ [p.data.toList]).length (trimCells (D ++ [p.data.toList]))) := by
        show w3.ownsRow _ _ _ _ _ _
        rw [trimCells_snoc, List.length_append, hq]
        exact hown
      have HRUN := Lib.hid hrun
      rw [hq] at TR
      clear hrun hgr hown hat hq
      by_cases hend : k = s.size
      · subst hend
        have hz := beq_iff_eq.2 (rfl : (s.size : Int) = (s.size : Int))
        have HN : Hid (CutInv 44 s (s.size + 1) (s.size + 1) (D ++ [p.data.toList])) := by
          have := HC.out.last
          rw [hp] at this
          exact this
        go_wp2_with (first
          | (go_at_call 38; (with_reducible refine (TR.out _).mono ?_); rintro r w' ⟨rfl, rfl⟩)
          | (at_builtin; refine wpList_append_run HRUN.out rfl _ _ rfl rfl rfl rfl ?_))
        go_roundw
        case rel => exact ⟨s.size + 1, s.size + 1, _, by go_num, by go_num, by omega, by omega, by simp; omega, HN, HO3, hb3⟩
        case measure => simp [intOf] <;> omega
      · have hlt : k < s.size := by omega
        have hz := beq_eq_false_iff_ne.2 (show (k : Int) ≠ (s.size : Int) by omega)
        clear hend
        by_cases hc : s[k] = 44
        · have HN : Hid (CutInv 44 s (k + 1) (k + 1) (D ++ [p.data.toList])) := by
            have := HC.out.comma hlt hc
            rw [hp] at this
            exact this
          have hcb := eqb_t (show (s[k].toNat : Int) = 44 by rw [hc]; rfl)
          clear hc
          go_wp2_with (first
            | (go_at_call 38; (with_reducible refine (TR.out _).mono ?_); rintro r w' ⟨rfl, rfl⟩)
            | (at_builtin; refine wpList_append_run HRUN.out rfl _ _ rfl rfl rfl rfl ?_))
          go_roundw
          case rel => exact ⟨k + 1, k + 1, _, by go_num, by go_num, by omega, by omega, by simp; omega, HN, HO3, hb3⟩
          case measure => simp [intOf]; omega
        · have HN := Lib.hid (HC.out.other hlt hc)
          have hcb := eqb_f (a := s[k].toNat) (b := 44) (fun h => hc (UInt8.toNat_inj.1 (show s[k].toNat = 44 by omega)))
          clear hc
          go_wp2_with fail
          go_roundw
          case rel => exact ⟨k + 1, fr, D, by go_num, rfl, by omega, by omega, by omega, HN, HO, hb⟩
          case measure => simp [intOf]; omega
    · have HD := Lib.hid (HC.out.done (by omega))
      have hD1 : 1 ≤ D.length := by
        rcases Nat.eq_zero_or_pos D.length with h | h
        · exact absurd (by rw [HD.out]; exact List.eq_nil_of_length_eq_zero h) (splitC_ne 44 s.data.toList)
        · exact h
      have hD2 : D.length ≤ 100001 := by omega
      obtain ⟨g, cap, hv, hgge, hglt⟩ := HO.out.form (by omega)
      subst hv
      have hDt : trimCells D = (D.map trimL).map fun x => Value.string ⟨x.toArray⟩ := by unfold trimCells; rw [List.map_map]; rfl
      rw [hDt] at HO
      obtain ⟨E, hE⟩ : ∃ E, D.map trimL = E := ⟨_, rfl⟩
      have hEl : E.length = D.length := by rw [← hE, List.length_map]
      have hEs : ∀ x ∈ E, x.length ≤ 100000 := by
        intro x hx
        rw [← hE] at hx
        obtain ⟨y, hy, rfl⟩ := List.mem_map.1 hx
        have h1 := (splitC_len 44 s.data.toList).2 y (by rw [HD.out]; exact hy)
        have h2 := trimL_le y
        rw [size_l] at h1
        omega
      rw [hE] at HO
      have HRE : Hid (sameR E digits most = R) := by
        show _ = _
        rw [← HR.out, ← hE, HD.out]
      have HES := Lib.hid hEs
      obtain ⟨m, hm⟩ : ∃ m, D.length = m := ⟨_, rfl⟩
      rw [hm] at HO hEl hD1 hD2 hD
      rw [hm]
      have hle' : s.size < k := by omega
      have hdb1 : decide (k ≤ s.size) = false := decide_eq_false hle
      clear hDt hE hEs hD HC hle HD hm hk hfr
      have HEL := Lib.hid hEl
      clear hEl
      go_wp2_with fail
      go_loopw [11] (fun i wr => ∃ k : Nat, i = .int .i64 k ∧ k ≤ m ∧ Hid (∀ x ∈ E.take k, badEl x = false) ∧ Hid (wr.ownsRow w.heap.size 9 1 (.slice (some ⟨g, 0, none⟩) m cap) m (E.map fun x => Value.string ⟨x.toArray⟩)) ∧ Below w.heap.size w wr) (fun i _ => m - (intOf i).toNat)
      case atStart => exact ⟨0, rfl, Nat.zero_le _, (by simp : ∀ x ∈ E.take 0, badEl x = false), HO, hb⟩
      case round =>
        obtain ⟨k, rfl, hk, HG, HO, hb⟩ := hrel
        rename World => W1
        by_cases hlt : k < m
        · have hl : k < E.length := by rw [HEL.out]; exact hlt
          obtain ⟨q, hq⟩ : ∃ q : ByteArray, (⟨E[k].toArray⟩ : ByteArray) = q := ⟨_, rfl⟩
          have hql : q.data.toList = E[k] := by rw [← hq]
          have hqs : q.size ≤ 100000 := by rw [← size_l, hql]; exact HES.out _ (List.getElem_mem _)
          have hcell : W1.cell? ⟨g, k, none⟩ = some (.string q) := by rw [HO.out.cellAt k (by omega), List.getElem?_map, List.getElem?_eq_getElem hl, ← hq]; rfl
          have HQ := Lib.hid hql
          clear hql hq
          by_cases hq0 : q.size = 0
          · have hbad : badEl E[k] = true := by
              rw [← HQ.out]; unfold badEl; rw [List.isEmpty_iff.2 (List.eq_nil_of_length_eq_zero (by rw [size_l]; exact hq0))]; rfl
            have hR : sameR E digits most = (0, 3) := by
              unfold sameR
              rw [if_pos]
              rw [List.any_eq_true]
              exact ⟨_, List.getElem_mem hl, hbad⟩
            have HR2 := Lib.hid (HRE.out.symm.trans hR)
            have he := emp_t hq0
            clear hbad hR hq0
            go_wp2_with fail
            go_quiet (fail)
            go_wp2_with fail
            go_ret2
            exact ⟨ret_int2 (by rw [HR2.out]; rfl) (by rw [HR2.out]; rfl), below_drewN hb _⟩
          · have he := emp_f hq0
            by_cases hp : pfx false q.data.toList < q.size
            · have hbad : badEl E[k] = true := by
                rw [← HQ.out]; unfold badEl; rw [size_l, decide_eq_true hp]; simp
              have hR : sameR E digits most = (0, 3) := by
                unfold sameR
                rw [if_pos]
                rw [List.any_eq_true]
                exact ⟨_, List.getElem_mem hl, hbad⟩
              have HR2 := Lib.hid (HRE.out.symm.trans hR)
              clear hbad hR hq0
              go_wp2_with fail
              go_quiet ((go_at_call 20; exact quiet_left (refPrefix q false _ (by omega))))
              go_wp2_with fail
              go_ret2
              exact ⟨ret_int2 (by rw [HR2.out]; rfl) (by rw [HR2.out]; rfl), below_drewN hb _⟩
            · have hgood : badEl E[k] = false := by
                rw [← HQ.out]; unfold badEl; rw [size_l, decide_eq_false hp, List.isEmpty_eq_false_iff.2 (fun e => hq0 (by rw [← size_l, e]; rfl))]; rfl
              have HGD : Hid (∀ x ∈ E.take (k + 1), badEl x = false) := by
                show ∀ x ∈ E.take (k + 1), badEl x = false
                intro x hx
                rw [List.take_succ_eq_append_getElem hl] at hx
                rcases List.mem_append.1 hx with h | h
                · exact HG.out x h
                · rw [List.mem_singleton.1 h]; exact hgood
              clear hgood hq0
              go_wp2_with fail
              go_quiet ((go_at_call 20; exact quiet_left (refPrefix q false _ (by omega))))
              go_wp2_with fail
              go_roundw
              case rel => exact ⟨k + 1, by go_num, by omega, HGD, own_drewN HO.out _, below_drewN hb _⟩
              case measure => simp [intOf]; omega
        · have HNB : Hid (E.any badEl = false) := by
            show _ = _
            rw [List.any_eq_false]
            intro x hx
            rw [HG.out x (by rw [List.take_of_length_le (by rw [HEL.out]; omega)]; exact hx)]
            simp
          have hdb2 : decide (k < m) = false := decide_eq_false hlt
          clear HG
          go_wp2_with fail
          clear hdb2 hlt
          go_loopw [12, 13, 14, 15] (fun f i _ _ wr => ∃ (k x : Nat), i = .int .i64 k ∧ f = .int .u64 x ∧ k ≤ m ∧ x < 18446744073709551616 ∧ Hid (0 < k → x = (rdN false (E.headD []) digits most).1) ∧ Hid (∀ x ∈ E.take k, ((rdN false x digits most).2 != 0) = false) ∧
            Hid (wr.ownsRow w.heap.size 9 1 (.slice (some ⟨g, 0, none⟩) m cap) m (cells3 E digits most k)) ∧ Below w.heap.size w wr) (fun _ i _ _ _ => m - (intOf i).toNat)
          case atStart => exact ⟨0, 0, rfl, rfl, Nat.zero_le _, by omega, (by intro h; omega : 0 < 0 → 0 = (rdN false (E.headD []) digits most).1), (by simp : ∀ x ∈ E.take 0, ((rdN false x digits most).2 != 0) = false), by rw [cells3_zero]; exact HO, hb⟩
          case round =>
            obtain ⟨k, x, rfl, rfl, hk, hx, HX, HG, HO, hb⟩ := hrel
            rename World => W1
            by_cases hlt : k < m
            · have hl : k < E.length := by rw [HEL.out]; exact hlt
              obtain ⟨q, hq⟩ : ∃ q : ByteArray, (⟨E[k].toArray⟩ : ByteArray) = q := ⟨_, rfl⟩
              have hql : q.data.toList = E[k] := by rw [← hq]
              have hqs : q.size ≤ 100000 := by rw [← size_l, hql]; exact HES.out _ (List.getElem_mem _)
              have hcell : W1.cell? ⟨g, k, none⟩ = some (.string q) := by rw [HO.out.cellAt k (by omega), cells3_at E digits most k hl, hq]
              have hfz := HO.out.frozenAt k
              obtain ⟨a, e, hae⟩ : ∃ a e : Nat, rdN false E[k] digits most = (a, e) := ⟨_, _, rfl⟩
              have ha : a < 18446744073709551616 := by have := rdN_lt false E[k] digits most; rw [hae] at this; exact this
              have hdec : ∀ w, Calls Tryd.prog 22 #[.string q, .int .i64 digits, .int .u64 most] w fun r w' => r = .returned (.tuple #[.int .u64 a, .int .i64 e]) ∧ w = w' := fun w => by
                have := refDec q digits most w (by omega)
                rw [hql, hae] at this
                exact this
              have HD := Lib.hid hdec
              have HAE := Lib.hid hae
              clear hdec hae hq hql
              by_cases he : e = 0
              · subst he
                have HG3 : Hid (∀ x ∈ E.take (k + 1), ((rdN false x digits most).2 != 0) = false) := by
                  show ∀ x ∈ E.take (k + 1), ((rdN false x digits most).2 != 0) = false
                  intro x hx
                  rw [List.take_succ_eq_append_getElem hl] at hx
                  rcases List.mem_append.1 hx with h | h
                  · exact HG.out x h
                  · rw [List.mem_singleton.1 h, HAE.out]; rfl
                have hst := (HO.out.stored k (.string ⟨(Lib.decDigits a).toArray⟩)).1
                rw [cells3_step E digits most k hl a (by rw [HAE.out])] at hst
                have HST := Lib.hid hst
                have DT := Lib.hid (fun w => refDecText_q a w ha)
                clear hst
                by_cases hk0 : k = 0
                · have hkb : ((k : Int) == 0) = true := beq_iff_eq.2 (by omega)
                  have HX2 : Hid (0 < k + 1 → a = (rdN false (E.headD []) digits most).1) := by
                    show 0 < k + 1 → a = (rdN false (E.headD []) digits most).1
                    intro _
                    have h2 : E.headD [] = E[k] := by subst hk0; cases E with | nil => simp at hl | cons a l => rfl
                    rw [h2, HAE.out]
                  clear hk0
                  go_wp2_with fail
                  (with_reducible refine (HD.out _).mono ?_); rintro r w' ⟨rfl, rfl⟩
                  go_wp2_with fail
                  (with_reducible refine (DT.out _).mono ?_); rintro r w' ⟨rfl, mm, rfl⟩
                  go_wp2_with fail
                  go_roundw
                  case rel => exact ⟨k + 1, a, by go_num, rfl, by omega, ha, HX2, HG3, own_drewN HST.out _, below_drewN (hb.setCell (by omega) _) _⟩
                  case measure => simp [intOf]; omega
                · have hkb : ((k : Int) == 0) = false := beq_eq_false_iff_ne.2 (by omega)
                  have HX2 : Hid (0 < k + 1 → x = (rdN false (E.headD []) digits most).1) := by
                    show 0 < k + 1 → x = (rdN false (E.headD []) digits most).1
                    intro _
                    exact HX.out (by omega)
                  clear hk0
                  go_wp2_with fail
                  (with_reducible refine (HD.out _).mono ?_); rintro r w' ⟨rfl, rfl⟩
                  go_wp2_with fail
                  (with_reducible refine (DT.out _).mono ?_); rintro r w' ⟨rfl, mm, rfl⟩
                  go_wp2_with fail
                  go_roundw
                  case rel => exact ⟨k + 1, x, by go_num, rfl, by omega, hx, HX2, HG3, own_drewN HST.out _, below_drewN (hb.setCell (by omega) _) _⟩
                  case measure => simp [intOf]; omega
              · have hR : sameR E digits most = (0, e) := by
                  unfold sameR
                  rw [if_neg (by rw [HNB.out]; simp)]
                  have hf := find_at (fun a : Nat × Nat => a.2 != 0) (E.map (fun x => rdN false x digits most)) k (by simpa using hl) (by
                    intro x hx
                    rw [← List.map_take] at hx
                    obtain ⟨p, hp, rfl⟩ := List.mem_map.1 hx
                    exact HG.out p hp) (by simp [HAE.out, he])
                  rw [hf]
                  simp [HAE.out]
                have HR2 := Lib.hid (HRE.out.symm.trans hR)
                have heb : ((e : Int) != 0) = true := by rw [bne_iff_ne]; omega
                clear hR he
                go_wp2_with fail
                (with_reducible refine (HD.out _).mono ?_); rintro r w' ⟨rfl, rfl⟩
                go_wp2_with fail
                go_ret2
                exact ⟨ret_int2 (by rw [HR2.out]; rfl) (by rw [HR2.out]), hb⟩
            · obtain rfl : k = m := by omega
              have hdb3 : decide (k < k) = false := decide_eq_false hlt
              obtain ⟨f, hf⟩ : ∃ f, (rdN false (E.headD []) digits most).1 = f := ⟨_, rfl⟩
              have hxf : x = f := by rw [← hf]; exact HX.out (by omega)
              subst hxf
              have hfn : (E.map fun x => rdN false x digits most).find? (fun a => a.2 != 0) = none := by
                refine find_none' _ _ fun x hx => ?_
                obtain ⟨p, hp, rfl⟩ := List.mem_map.1 hx
                exact HG.out p (by rw [List.take_of_length_le (by rw [HEL.out]; omega)]; exact hp)
              have hhead : (E.map fun x => (rdN false x digits most).1).headD 0 = x := by
                rw [← hf]
                cases E with
                | nil => have := HEL.out; simp at this; omega
                | cons a l => rfl
              have hR : sameR E digits most = if (E.map fun x => (rdN false x digits most).1).all (· == x) = true then (x, 0) else (0, 7) := by
                unfold sameR
                rw [if_neg (by rw [HNB.out]; simp), hfn]
                simp only
                rw [hhead]
              have HR1 := Lib.hid hR
              have DT := Lib.hid (fun w => refDecText_q x w hx)
              clear hR hhead hfn HG HX hf
              go_wp2_with fail
              clear hdb3 hlt
              go_loopw [16] (fun i wr => ∃ j : Nat, i = .int .i64 j ∧ j ≤ k ∧ Hid (∀ y ∈ E.take j, ((rdN false y digits most).1 == x) = true) ∧
                Hid (wr.ownsRow w.heap.size 9 1 (.slice (some ⟨g, 0, none⟩) k cap) k (cells3 E digits most k)) ∧ Below w.heap.size w wr) (fun i _ => k - (intOf i).toNat)
              case atStart => exact ⟨0, rfl, Nat.zero_le _, (by simp : ∀ y ∈ E.take 0, ((rdN false y digits most).1 == x) = true), HO, hb⟩
              case round =>
                obtain ⟨j, rfl, hj, HG, HO, hb⟩ := hrel
                rename World => W2
                by_cases hlt : j < k
                · have hl : j < E.length := by rw [HEL.out]; exact hlt
                  obtain ⟨y, hy⟩ : ∃ y, (rdN false E[j] digits most).1 = y := ⟨_, rfl⟩
                  have hcell : W2.cell? ⟨g, j, none⟩ = some (.string ⟨(Lib.decDigits y).toArray⟩) := by
                    rw [HO.out.cellAt j (by omega)]
                    have h1 := cells3_all E digits most j hl
                    rw [HEL.out, hy] at h1
                    exact h1
                  by_cases hyx : y = x
                  · subst hyx
                    have HG2 : Hid (∀ z ∈ E.take (j + 1), ((rdN false z digits most).1 == y) = true) := by
                      show ∀ z ∈ E.take (j + 1), ((rdN false z digits most).1 == y) = true
                      intro z hz
                      rw [List.take_succ_eq_append_getElem hl] at hz
                      rcases List.mem_append.1 hz with h | h
                      · exact HG.out z h
                      · rw [List.mem_singleton.1 h, hy]; simp
                    clear hy
                    go_wp2_with fail
                    go_quiet ((go_at_call 17; exact Calls.quiet_of (DT.out _)))
                    go_wp2_with fail
                    go_roundw
                    case rel => exact ⟨j + 1, by go_num, by omega, HG2, own_drewN HO.out _, below_drewN hb _⟩
                    case measure => simp [intOf]; omega
                  · have hne : (⟨(Lib.decDigits y).toArray⟩ : ByteArray) ≠ ⟨(Lib.decDigits x).toArray⟩ := fun h => hyx (decDigits_inj (by have := congrArg (fun b : ByteArray => b.data.toList) h; simpa using this))
                    have hR : sameR E digits most = (0, 7) := by
                      rw [HR1.out, if_neg]
                      rw [List.all_eq_true]
                      intro h
                      have := h y (by rw [← hy]; exact List.mem_map_of_mem (List.getElem_mem hl))
                      exact hyx (by simpa using this)
                    have HR2 := Lib.hid (HRE.out.symm.trans hR)
                    obtain ⟨A, hA⟩ : ∃ A : ByteArray, (⟨(Lib.decDigits y).toArray⟩ : ByteArray) = A := ⟨_, rfl⟩
                    obtain ⟨B, hB⟩ : ∃ B : ByteArray, (⟨(Lib.decDigits x).toArray⟩ : ByteArray) = B := ⟨_, rfl⟩
                    rw [hA, hB] at hne
                    rw [hA] at hcell
                    rw [hB] at DT
                    have hab2 : (A.toList == B.toList) = false := by
                      rw [beq_eq_false_iff_ne]
                      intro h
                      rw [Lib.toList_data, Lib.toList_data] at h
                      exact hne (ba_ext h)
                    clear hne hR hyx hy hA hB
                    go_wp2_with fail
                    go_quiet ((go_at_call 17; exact Calls.quiet_of (DT.out _)))
                    go_wp2_with fail
                    go_ret2
                    exact ⟨ret_int2 (by rw [HR2.out]; rfl) (by rw [HR2.out]; rfl), below_drewN hb _⟩
                · have hR : sameR E digits most = (x, 0) := by
                    rw [HR1.out, if_pos]
                    rw [List.all_eq_true]
                    intro z hz
                    obtain ⟨p, hp, rfl⟩ := List.mem_map.1 hz
                    exact HG.out p (by rw [List.take_of_length_le (by rw [HEL.out]; omega)]; exact hp)
                  have HR2 := Lib.hid (HRE.out.symm.trans hR)
                  clear hR
                  go_wp2_with fail
                  go_ret2
                  exact ⟨ret_int2 (by rw [HR2.out]) (by rw [HR2.out]; rfl), hb⟩
end Go.Proofs.YtjdapggdajkphaaDoor
