/-
  The reference of tokens (waypostref05): Colon.
-/
import Derived.Test.YtkbihipgnlglbaaGreatDoorTr4
import Derived.Test.YtkbihipgnlglbaaGreatDoorSeq
namespace Go.Proofs.YtkbihipgnlglbaaGreatDoor
open Go.RowKit

theorem tokB_colon : tokB 58 = false := by decide +kernel
theorem takeW_stop (p : UInt8 → Bool) (a r : List UInt8) (c : UInt8) (h : ∀ b ∈ a, p b = true) (hc : p c = false) : (a ++ c :: r).takeWhile p = a ∧ (a ++ c :: r).dropWhile p = c :: r := by
  induction a with
  | nil => simp [hc]
  | cons b a ih =>
    obtain ⟨h1, h2⟩ := ih fun x hx => h x (by simp [hx])
    have hb := h b (by simp)
    simp [hb, h1, h2]
theorem dropW_head (p : UInt8 → Bool) (a r : List UInt8) (h : ∃ b ∈ a, p b = false) : ∃ b t, (a ++ r).dropWhile p = b :: t ∧ p b = false ∧ b ∈ a := by
  induction a with
  | nil => simp at h
  | cons x a ih =>
    by_cases hx : p x = true
    · obtain ⟨b, t, h1, h2, h3⟩ := ih (by
        obtain ⟨b, hb, hp⟩ := h
        rcases List.mem_cons.1 hb with rfl | hb
        · rw [hx] at hp; cases hp
        · exact ⟨b, hb, hp⟩)
      exact ⟨b, t, by rw [List.cons_append, List.dropWhile_cons, if_pos hx]; exact h1, h2, by simp [h3]⟩
    · have hx' : p x = false := by simpa using hx
      exact ⟨x, a ++ r, by rw [List.cons_append, List.dropWhile_cons, if_neg hx], hx', by simp⟩
theorem dropW_mem (p : UInt8 → Bool) (l : List UInt8) : ∀ b ∈ l.dropWhile p, b ∈ l := by
  intro b hb
  rw [← List.takeWhile_append_dropWhile (p := p) (l := l)]
  exact List.mem_append.2 (.inr hb)

/-- what the reference reads off what stands behind the first token -/
def colR (l : List UInt8) : List UInt8 × List UInt8 × Nat :=
  if (cutT l).2.2 = 0 ∧ (cutT l).2.1.head? = some 58 ∧ isVal (trimL (cutT l).2.1.tail) = true then ((cutT l).1, trimL (cutT l).2.1.tail, 0) else ([], [], 3)
theorem colR_eq (l : List UInt8) : colR l = colT l := by
  rcases idx_cases 58 l with ⟨h1, h2⟩ | ⟨a, r, h1, h2, h3⟩
  · have hno : ∀ b ∈ l, b ≠ 58 := by
      have ht : l.takeWhile (· != 58) = l := congrArg Prod.fst h2
      intro b hb
      rw [← ht] at hb
      simpa using tw_all _ _ b hb
    have hL : colT l = ([], [], 3) := by unfold colT; rw [h2]; simp
    rw [hL]
    unfold colR
    rw [if_neg]
    rintro ⟨he, hh, _⟩
    unfold cutT at he hh
    split at he
    · simp at he
    · rename_i hne
      rw [if_neg hne] at hh
      have : (58 : UInt8) ∈ l.dropWhile tokB := by
        cases e : l.dropWhile tokB with
        | nil => rw [e] at hh; simp at hh
        | cons x t => rw [e] at hh; simp at hh; subst hh; simp
      exact hno 58 (dropW_mem _ _ _ this) rfl
  · have hL : colT l = if isTok a && isVal (trimL r) then (a, trimL r, 0) else ([], [], 3) := by unfold colT; rw [h3]; simp
    rw [hL]
    have hno : ∀ b ∈ a, b ≠ 58 := by
      have ht : l.takeWhile (· != 58) = a := congrArg Prod.fst h3
      intro b hb
      rw [← ht] at hb
      simpa using tw_all _ _ b hb
    by_cases hall : ∀ b ∈ a, tokB b = true
    · obtain ⟨t1, t2⟩ := takeW_stop tokB a r 58 hall tokB_colon
      rw [← h1] at t1 t2
      by_cases ha : a = []
      · subst ha
        unfold colR cutT
        rw [t1]
        simp [isTok]
      · have hc : cutT l = (a, 58 :: r, 0) := by unfold cutT; rw [t1, t2, if_neg ha]
        have ht : isTok a = true := by
          unfold isTok
          rw [Bool.and_eq_true]
          exact ⟨by simpa using ha, List.all_eq_true.2 hall⟩
        unfold colR
        rw [hc, ht]
        simp
    · have hex : ∃ b ∈ a, tokB b = false := by
        refine Classical.byContradiction fun h => hall fun b hb => ?_
        cases e : tokB b with
        | true => rfl
        | false => exact absurd ⟨b, hb, e⟩ h
      have ht : isTok a = false := by
        unfold isTok
        obtain ⟨b, hb, hp⟩ := hex
        have : (a.all fun b => tokP b.toNat) = false := by
          rw [List.all_eq_false]; exact ⟨b, hb, by show ¬ tokB b = true; rw [hp]; simp⟩
        rw [this, Bool.and_false]
      rw [ht]
      simp only [Bool.false_and, Bool.false_eq_true, if_false]
      unfold colR
      rw [if_neg]
      rintro ⟨he, hh, _⟩
      unfold cutT at he hh
      split at he
      · simp at he
      · rename_i hne
        rw [if_neg hne] at hh
        obtain ⟨b, t, e1, e2, e3⟩ := dropW_head tokB a (58 :: r) hex
        rw [← h1] at e1
        rw [e1] at hh
        simp at hh
        exact hno b e3 hh

set_option maxRecDepth 100000 in
set_option maxHeartbeats 4000000 in
theorem rColon (s : ByteArray) (w : World) (hs : s.size ≤ 1000000) :
    Calls Tryz.prog 64 #[.string s] w fun e w' => e = .returned (.tuple #[.string (bs (colT s.data.toList).1), .string (bs (colT s.data.toList).2.1), .int .i64 (colT s.data.toList).2.2]) ∧ ∃ m, w' = w.drewN m := by
  rw [← colR_eq]
  have cC := fun w => rCut s w hs
  have hlen : (cutT s.data.toList).2.1.length ≤ 1000000 := by
    unfold cutT
    split
    · simp
    · have := dropWhile_le' tokB s.data.toList
      rw [size_l] at this
      simp only
      omega
  have hR : colR s.data.toList = if (cutT s.data.toList).2.2 = 0 ∧ (cutT s.data.toList).2.1.head? = some 58 ∧ isVal (trimL (cutT s.data.toList).2.1.tail) = true then ((cutT s.data.toList).1, trimL (cutT s.data.toList).2.1.tail, 0) else ([], [], 3) := rfl
  rw [hR]
  clear hR
  obtain ⟨n, r, e, hX⟩ : ∃ n r e, cutT s.data.toList = (n, r, e) := ⟨_, _, _, rfl⟩
  rw [hX] at cC hlen ⊢
  simp only at hlen cC ⊢
  have CC := Lib.hid cC
  clear cC hX
  obtain ⟨u, hu⟩ : ∃ u, bs r = u := ⟨_, rfl⟩
  have hur : u.data.toList = r := by rw [← hu]; rfl
  rw [hu] at CC
  have husz : u.size = r.length := by rw [← hu]; exact bs_size r
  have e0 : (bs [] : ByteArray) = ⟨#[]⟩ := rfl
  by_cases he : e = 0
  · subst he
    by_cases hr : r = []
    · subst hr
      rw [if_neg (by simp)]
      have h1 : u.toList.isEmpty = true := emp_t (by rw [husz]; rfl)
      clear hu hur husz
      go_enter Tryz.func64, Tryz.ntmps64
      go_wp2_with fail
      (with_reducible refine (CC.out _).mono ?_); rintro e w1 ⟨rfl, m, rfl⟩
      go_wp2_with fail
      go_ret3
      exact ⟨rfl, _, rfl⟩
    · have hpos : 0 < u.size := by rw [husz]; exact List.length_pos_iff.2 hr
      have h1 : u.toList.isEmpty = false := emp_f (by omega)
      have hhead : r.head? = some u[0] := by
        rw [← hur]
        rw [List.head?_eq_getElem?, List.getElem?_eq_getElem (by rw [size_l]; exact hpos)]
        rfl
      rw [hhead]
      have htail : (u.extract 1 u.size) = bs r.tail := ba_ext (by rw [tail_list, hur, bs_list])
      by_cases hc : u[0] = 58
      · have h2 : ((u[0].toNat : Int) != 58) = false := by rw [hc]; rfl
        have h2' : ((u[0].toNat : Int) == 58) = true := by rw [hc]; rfl
        rw [hc]
        have cT := fun w => rTrim (bs r.tail) w (by rw [bs_size, List.length_tail]; omega)
        rw [show tr (bs r.tail) = bs (trimL r.tail) from rfl] at cT
        have htl : (trimL r.tail).length ≤ 1000000 := by have := trimL_le r.tail; rw [List.length_tail] at this; omega
        have cV := fun w => rValue (bs (trimL r.tail)) w (by rw [bs_size]; exact htl)
        rw [bs_list] at cV
        have CT := Lib.hid cT
        have HTL := Lib.hid htail
        have hub : u.size ≤ 1000000 := by omega
        clear cT hu hur hhead hc htail husz
        rcases Bool.eq_false_or_eq_true (isVal (trimL r.tail)) with hv | hv
        · rw [hv] at cV ⊢
          rw [if_pos (by simp)]
          have CV := Lib.hid cV
          clear cV hv
          go_enter Tryz.func64, Tryz.ntmps64
          go_wp2_with fail
          (with_reducible refine (CC.out _).mono ?_); rintro e w1 ⟨rfl, m, rfl⟩
          go_wp2_with fail
          rw [HTL.out]
          (with_reducible refine (CT.out _).mono ?_); rintro e w2 ⟨rfl, rfl⟩
          go_wp2_with fail
          (with_reducible refine (CV.out _).mono ?_); rintro e w2 ⟨rfl, rfl⟩
          go_wp2_with fail
          rw [HTL.out]
          (with_reducible refine (CT.out _).mono ?_); rintro e w2 ⟨rfl, rfl⟩
          go_wp2_with fail
          go_ret3
          exact ⟨rfl, _, rfl⟩
        · rw [hv] at cV ⊢
          rw [if_neg (by simp)]
          have CV := Lib.hid cV
          clear cV hv
          go_enter Tryz.func64, Tryz.ntmps64
          go_wp2_with fail
          (with_reducible refine (CC.out _).mono ?_); rintro e w1 ⟨rfl, m, rfl⟩
          go_wp2_with fail
          rw [HTL.out]
          (with_reducible refine (CT.out _).mono ?_); rintro e w2 ⟨rfl, rfl⟩
          go_wp2_with fail
          (with_reducible refine (CV.out _).mono ?_); rintro e w2 ⟨rfl, rfl⟩
          go_wp2_with fail
          go_ret3
          exact ⟨rfl, _, rfl⟩
      · have h2n : ¬ ((u[0].toNat : Int) = 58) := fun h => hc (UInt8.toNat_inj.1 (by show u[0].toNat = 58; omega))
        have h2 : ((u[0].toNat : Int) != 58) = true := by rw [bne_iff_ne]; exact h2n
        have h2' : ((u[0].toNat : Int) == 58) = false := beq_eq_false_iff_ne.2 h2n
        rw [if_neg (by rintro ⟨_, h, _⟩; injection h with h; exact hc h)]
        have hub : u.size ≤ 1000000 := by omega
        clear hu hur hhead htail hc h2n husz
        go_enter Tryz.func64, Tryz.ntmps64
        go_wp2_with fail
        (with_reducible refine (CC.out _).mono ?_); rintro e w1 ⟨rfl, m, rfl⟩
        go_wp2_with fail
        go_ret3
        exact ⟨rfl, _, rfl⟩
  · rw [if_neg (by rintro ⟨h, _⟩; exact he h)]
    have e1 : ((e : Int) == 0) = false := beq_eq_false_iff_ne.2 (by omega)
    have e2 : ((e : Int) != 0) = true := by rw [bne_iff_ne]; omega
    clear hu hur husz
    go_enter Tryz.func64, Tryz.ntmps64
    go_wp2_with fail
    (with_reducible refine (CC.out _).mono ?_); rintro e w1 ⟨rfl, m, rfl⟩
    go_wp2_with fail
    go_ret3
    exact ⟨rfl, _, rfl⟩
end Go.Proofs.YtkbihipgnlglbaaGreatDoor
