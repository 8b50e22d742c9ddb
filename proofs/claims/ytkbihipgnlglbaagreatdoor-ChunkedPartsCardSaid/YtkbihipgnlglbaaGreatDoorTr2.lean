/-
  The reference of tokens (waypostref05): blank, Trim, inner, Value.
-/
import Derived.Test.YtkbihipgnlglbaaGreatDoorTr1
namespace Go.Proofs.YtkbihipgnlglbaaGreatDoor
open Go.RowKit

theorem isB_iff (b : UInt8) : isB b = true ↔ b.toNat = 32 ∨ b.toNat = 9 := by
  simp only [isB, Bool.or_eq_true, beq_iff_eq]
  constructor
  · rintro (h | h) <;> subst h
    · exact .inl rfl
    · exact .inr rfl
  · rintro (h | h)
    · exact .inl (UInt8.toNat_inj.1 h)
    · exact .inr (UInt8.toNat_inj.1 h)
theorem tail_list (u : ByteArray) : (u.extract 1 u.size).data.toList = u.data.toList.tail := by
  rw [Lib.extract_to_end, List.drop_one]
theorem init_list (u : ByteArray) : (u.extract 0 (u.size - 1)).data.toList = u.data.toList.dropLast := by
  rw [Lib.extract_data, List.dropLast_eq_take, size_l]
  simp
theorem head_drop (u : ByteArray) (h : 0 < u.size) (hb : isB u[0] = true) : u.data.toList.tail.dropWhile isB = u.data.toList.dropWhile isB := by
  have hl : 0 < u.data.toList.length := by rw [size_l]; exact h
  have e : u.data.toList = u[0] :: u.data.toList.tail := by
    rw [← List.cons_head_tail (List.ne_nil_of_length_pos hl)]
    congr 1
    rw [List.head_eq_getElem]; rfl
  conv => rhs; rw [e, List.dropWhile_cons, if_pos hb]
theorem head_stop (u : ByteArray) (h : 0 < u.size) (hb : ¬ isB u[0] = true) : u.data.toList.dropWhile isB = u.data.toList := by
  have hl : 0 < u.data.toList.length := by rw [size_l]; exact h
  have e : u.data.toList = u[0] :: u.data.toList.tail := by
    rw [← List.cons_head_tail (List.ne_nil_of_length_pos hl)]
    congr 1
    rw [List.head_eq_getElem]; rfl
  rw [e, List.dropWhile_cons, if_neg hb]
theorem last_eq (u : ByteArray) (h : 0 < u.size) : u.data.toList = u.data.toList.dropLast ++ [u[u.size - 1]] := by
  have hl : u.data.toList ≠ [] := List.ne_nil_of_length_pos (by rw [size_l]; exact h)
  conv => lhs; rw [← List.dropLast_concat_getLast hl]
  congr 2
  rw [List.getLast_eq_getElem]
  simp only [size_l]
  rfl
theorem trimR_snoc (l : List UInt8) (b : UInt8) : trimR (l ++ [b]) = if isB b = true then trimR l else l ++ [b] := by
  unfold trimR
  rw [List.reverse_append, List.reverse_singleton, List.singleton_append, List.dropWhile_cons]
  split
  · rfl
  · simp
theorem last_drop (u : ByteArray) (h : 0 < u.size) (hb : isB u[u.size - 1] = true) : trimR u.data.toList.dropLast = trimR u.data.toList := by
  conv => rhs; rw [last_eq u h, trimR_snoc, if_pos hb]
theorem last_stop (u : ByteArray) (h : 0 < u.size) (hb : ¬ isB u[u.size - 1] = true) : trimR u.data.toList = u.data.toList := by
  conv => lhs; rw [last_eq u h, trimR_snoc, if_neg hb]
  exact (last_eq u h).symm

def strLen : Value → Nat | .string u => u.size | _ => 0
theorem rblank (c : UInt8) (w : World) :
    Calls Tryz.prog 95 #[.int .u8 c.toNat] w fun e w' => e = .returned (.bool (isB c)) ∧ w = w' := by
  obtain ⟨R, hR⟩ : ∃ R, isB c = R := ⟨_, rfl⟩
  rw [hR]
  have hi := isB_iff c
  by_cases h32 : c.toNat = 32
  · have hb := eqb_t (show (c.toNat : Int) = 32 by omega)
    have hr : R = true := by rw [← hR]; exact hi.2 (.inl h32)
    subst hr
    clear h32 hi hR
    go_enter Tryz.func95, Tryz.ntmps95
    go_wp2_with fail
    go_ret
    exact ⟨rfl, rfl⟩
  · have hb := eqb_f (show (c.toNat : Int) ≠ 32 by omega)
    have hr : ((c.toNat : Int) == 9) = R := by
      by_cases h9 : c.toNat = 9
      · rw [eqb_t (show (c.toNat : Int) = 9 by omega), ← hR]; exact (hi.2 (.inr h9)).symm
      · rw [eqb_f (show (c.toNat : Int) ≠ 9 by omega), ← hR]
        cases h : isB c with
        | false => rfl
        | true => rcases hi.1 h with h | h <;> omega
    clear h32 hi hR
    go_enter Tryz.func95, Tryz.ntmps95
    go_wp2_with fail
    go_ret
    exact ⟨rfl, rfl⟩

set_option maxHeartbeats 4000000 in
theorem rTrim (s : ByteArray) (w : World) (hs : s.size ≤ 1000000) :
    Calls Tryz.prog 81 #[.string s] w fun e w' => e = .returned (.string (tr s)) ∧ w = w' := by
  obtain ⟨R, hR⟩ : ∃ R, tr s = R := ⟨_, rfl⟩
  have hRl : R.data.toList = trimR (s.data.toList.dropWhile isB) := by rw [← hR, ← trimL_comm]; rfl
  rw [hR]
  have HR := Lib.hid hRl
  have CB := Lib.hid rblank
  clear hR hRl
  go_enter Tryz.func81, Tryz.ntmps81
  go_wp2_with fail
  go_loop [0] (fun v => ∃ u : ByteArray, v = .string u ∧ u.size ≤ 1000000 ∧ Hid (u.data.toList.dropWhile isB = s.data.toList.dropWhile isB)) (fun v => strLen v)
  case atStart => exact ⟨s, rfl, hs, rfl⟩
  case round =>
    obtain ⟨u, rfl, hu, HU⟩ := hrel
    by_cases hstop : 0 < u.size ∧ ∃ h : 0 < u.size, isB u[0] = true
    · obtain ⟨hpos, _, hbl⟩ := hstop
      have he := emp_f (show u.size ≠ 0 by omega)
      have HN : Hid ((u.extract 1 u.size).data.toList.dropWhile isB = s.data.toList.dropWhile isB) := by
        show _ = _
        rw [tail_list, head_drop u hpos hbl]; exact HU.out
      have hsz : (u.extract 1 u.size).size = u.size - 1 := by rw [ByteArray.size_extract]; omega
      have HSZ := Lib.hid hsz
      clear hsz
      go_wp2_with fail
      (with_reducible refine (CB.out _ _).mono ?_); rintro e w1 ⟨rfl, rfl⟩
      rw [hbl]
      go_wp2_with fail
      go_round
      case rel => exact ⟨_, rfl, by rw [HSZ.out]; omega, HN⟩
      case measure => show (u.extract 1 u.size).size < u.size; rw [HSZ.out]; omega
    · have HE : Hid (u.data.toList = s.data.toList.dropWhile isB) := by
        show _ = _
        rw [← HU.out]
        by_cases hpos : 0 < u.size
        · exact (head_stop u hpos (fun h => hstop ⟨hpos, hpos, h⟩)).symm
        · rw [List.eq_nil_of_length_eq_zero (show u.data.toList.length = 0 by rw [size_l]; omega)]; rfl
      by_cases hpos : 0 < u.size
      all_goals
        first
          | (have he := emp_f (show u.size ≠ 0 by omega)
             have hnb : isB u[0] = false := by
               cases h : isB u[0] with
               | false => rfl
               | true => exact absurd ⟨hpos, hpos, h⟩ hstop
             clear hstop HU
             go_wp2_with fail
             (with_reducible refine (CB.out _ _).mono ?_); rintro e w1 ⟨rfl, rfl⟩
             rw [hnb]
             go_wp2_with fail
             clear he hnb)
          | (have he := emp_t (show u.size = 0 by omega)
             clear hstop HU
             go_wp2_with fail
             clear he)
        go_loop [0] (fun v => ∃ x : ByteArray, v = .string x ∧ x.size ≤ 1000000 ∧ Hid (trimR x.data.toList = R.data.toList)) (fun v => strLen v)
        case atStart => exact ⟨u, rfl, hu, by rw [HE.out]; exact HR.out.symm⟩
        case round =>
          obtain ⟨x, rfl, hx, HX⟩ := hrel
          by_cases hgo : 0 < x.size ∧ ∃ h : 0 < x.size, isB x[x.size - 1] = true
          · obtain ⟨hxp, _, hbl⟩ := hgo
            have hex := emp_f (show x.size ≠ 0 by omega)
            have HN : Hid (trimR (x.extract 0 (x.size - 1)).data.toList = R.data.toList) := by
              show _ = _
              rw [init_list, last_drop x hxp hbl]; exact HX.out
            have hsz : (x.extract 0 (x.size - 1)).size = x.size - 1 := by rw [ByteArray.size_extract]; omega
            have HSZ := Lib.hid hsz
            clear hsz
            go_wp2_with fail
            (with_reducible refine (CB.out _ _).mono ?_); rintro e w1 ⟨rfl, rfl⟩
            rw [hbl]
            go_wp2_with fail
            go_round
            case rel => exact ⟨_, rfl, by rw [HSZ.out]; omega, HN⟩
            case measure => show (x.extract 0 (x.size - 1)).size < x.size; rw [HSZ.out]; omega
          · have HF : Hid (x = R) := by
              show _ = _
              apply ba_ext
              rw [← HX.out]
              by_cases hxp : 0 < x.size
              · exact (last_stop x hxp (fun h => hgo ⟨hxp, hxp, h⟩)).symm
              · rw [List.eq_nil_of_length_eq_zero (show x.data.toList.length = 0 by rw [size_l]; omega)]; rfl
            by_cases hxp : 0 < x.size
            · have hex := emp_f (show x.size ≠ 0 by omega)
              have hnb : isB x[x.size - 1] = false := by
                cases h : isB x[x.size - 1] with
                | false => rfl
                | true => exact absurd ⟨hxp, hxp, h⟩ hgo
              clear hgo HX
              go_wp2_with fail
              (with_reducible refine (CB.out _ _).mono ?_); rintro e w1 ⟨rfl, rfl⟩
              rw [hnb]
              go_wp2_with fail
              go_ret
              exact ⟨ret_str HF.out, rfl⟩
            · have hex := emp_t (show x.size = 0 by omega)
              clear hgo HX
              go_wp2_with fail
              go_ret
              exact ⟨ret_str HF.out, rfl⟩
end Go.Proofs.YtkbihipgnlglbaaGreatDoor
