/-
  reqline: Text.
-/
import Derived.Test.YtencphfhpnljlaaGreatDoorRq6
namespace Go.Proofs.YtencphfhpnljlaaGreatDoor
open Go.RowKit

theorem tgtE_T (t : List UInt8) : tgtE t = if 1024 < t.length then 4 else if tgtT t = false then 3 else 0 := by
  unfold tgtE
  by_cases h1 : 1024 < t.length
  · rw [if_pos h1, if_pos h1]
  · rw [if_neg h1, if_neg h1]
    have hle : tgtN t ≤ t.length := by unfold tgtN; split; exact (takeWhile_len _ _).1; exact Nat.zero_le _
    cases ht : tgtT t with
    | true =>
      obtain ⟨a, b⟩ := tgtN_good ht
      rw [if_neg (fun e => e.elim b (fun e => by omega)), if_neg (by simp)]
    | false =>
      rw [if_pos rfl, if_pos]
      by_cases hn : t = []
      · exact .inl hn
      · refine .inr ?_
        rcases Nat.lt_or_ge (tgtN t) t.length with h | h
        · exact h
        · have := tgtN_back (by omega) hn
          rw [ht] at this; cases this
theorem req_app (m t : List UInt8) : bs m ++ ⟨#[32]⟩ ++ bs t ++ ⟨#[32]⟩ ++ ⟨#[72, 84, 84, 80, 47, 49, 46, 49]⟩ = bs (m ++ [32] ++ t ++ [32] ++ verS) := by
  apply ba_ext
  rw [append_toList, append_toList, append_toList, append_toList, bs_list, bs_list, bs_list]
  rfl
set_option maxRecDepth 100000 in
set_option maxHeartbeats 8000000 in
theorem pTextQ (m t : List UInt8) (w : World) (hm : m.length ≤ 1000000) (ht : t.length ≤ 1000000) :
    Calls Tryz.prog 22 #[.agg #[.string (bs m), .string (bs t)]] w fun e w' => e = .returned (.tuple #[.string (bs (reqT m t).1), .int .i64 ((reqT m t).2 : Nat)]) ∧ Below w.heap.size w w' := by
  have b0 : Below w.heap.size w (w.alloc (.cells #[.string (bs m), .string (bs t)] 24)) := (Below.refl _ _).alloc (Nat.le_refl _) _
  have k0 := Blk.new w 24 #[.string (bs m), .string (bs t)]
  have zm := bs_size m
  have zt := bs_size t
  have cI := fun X => TIs_any (bs m) X (by omega)
  have cT := fun X => pTargetQ (bs t) X (by omega)
  rw [bs_list] at cI cT
  rw [tgtE_T] at cT
  have hdef : reqT m t = if 16 < m.length ∨ isTok m = false then ([], 11) else if 1024 < t.length then ([], 4) else if tgtT t = false then ([], 3) else (m ++ [32] ++ t ++ [32] ++ verS, 0) := rfl
  have CI := Lib.hid cI
  have CT := Lib.hid cT
  have B0 := Lib.hid (And.intro b0 k0)
  have c0 : (w.alloc (.cells #[.string (bs m), .string (bs t)] 24)).cell? ⟨w.heap.size, 0, none⟩ = some (.string (bs m)) := k0.cell 0
  have c1 : (w.alloc (.cells #[.string (bs m), .string (bs t)] 24)).cell? ⟨w.heap.size, 1, none⟩ = some (.string (bs t)) := k0.cell 1
  clear b0 k0 cI cT
  by_cases h16 : 16 < m.length
  · have hR : reqT m t = ([], 11) := by rw [hdef, if_pos (.inl h16)]
    have i1 : (16 : Int) < ((bs m).size : Int) := by omega
    have d1 : decide ((16 : Int) < ((bs m).size : Int)) = true := by simp; omega
    have HR := Lib.hid hR
    clear hdef hR h16
    go_enter Tryz.func22, Tryz.ntmps22
    go_wp2_with fail
    go_ret2
    exact ⟨by rw [HR.out]; rfl, B0.out.1⟩
  have i1 : ¬ (16 : Int) < ((bs m).size : Int) := by omega
  have d1 : decide ((16 : Int) < ((bs m).size : Int)) = false := by simp; omega
  cases hk : isTok m with
  | false =>
    have hR : reqT m t = ([], 11) := by rw [hdef, if_pos (.inr hk)]
    rw [hk] at CI
    have HR := Lib.hid hR
    clear hdef hR h16 hk
    go_enter Tryz.func22, Tryz.ntmps22
    go_wp2_with fail
    (with_reducible refine (CI.out _).mono ?_); rintro e w1 ⟨rfl, g1⟩
    go_wp2_with fail
    go_ret2
    exact ⟨by rw [HR.out]; rfl, B0.out.1.trans (g1.mono B0.out.1.size)⟩
  | true =>
    rw [hk] at CI
    rw [if_neg (fun e => e.elim h16 (fun e => by rw [hk] at e; cases e))] at hdef
    obtain ⟨E, hE⟩ : ∃ E, (if 1024 < t.length then 4 else if tgtT t = false then 3 else 0) = E := ⟨_, rfl⟩
    rw [hE] at CT
    have hcase : (E = 0 ∧ t.length ≤ 1024 ∧ reqT m t = (m ++ [32] ++ t ++ [32] ++ verS, 0)) ∨ (E ≠ 0 ∧ reqT m t = ([], E)) := by
      by_cases a1 : 1024 < t.length
      · rw [if_pos a1] at hE hdef; subst hE; exact .inr ⟨by decide, hdef⟩
      · rw [if_neg a1] at hE hdef
        by_cases a2 : tgtT t = false
        · rw [if_pos a2] at hE hdef; subst hE; exact .inr ⟨by decide, hdef⟩
        · rw [if_neg a2] at hE hdef; subst hE; exact .inl ⟨rfl, by omega, hdef⟩
    have K0 := Lib.hid (fun (X : World) (h : Below (w.alloc (.cells #[.string (bs m), .string (bs t)] 24)).heap.size (w.alloc (.cells #[.string (bs m), .string (bs t)] 24)) X) => And.intro (B0.out.2.below h B0.out.2.lt) (B0.out.1.trans (h.mono B0.out.1.size)))
    clear hdef h16 hk hE
    rcases hcase with ⟨hE, ht1, hR⟩ | ⟨hE, hR⟩
    · subst hE
      have e1 : (((0 : Nat) : Int) != 0) = false := rfl
      have HR := Lib.hid hR
      have s1 : (bs m).size ≤ 16 := by omega
      have s2 : (bs t).size ≤ 1024 := by omega
      clear hR ht1
      go_enter Tryz.func22, Tryz.ntmps22
      go_wp2_with fail
      (with_reducible refine (CI.out _).mono ?_); rintro e w1 ⟨rfl, g1⟩
      have h1 := K0.out w1 g1
      have q1 : w1.cell? ⟨w.heap.size, 1, none⟩ = some (.string (bs t)) := h1.1.cell 1
      have H1 := Lib.hid h1
      clear h1 g1
      go_wp2_with fail
      (with_reducible refine (CT.out _).mono ?_); rintro e w2 ⟨rfl, g2⟩
      have k2 := H1.out.1.below g2 H1.out.1.lt
      have h2 := H1.out.2.trans (g2.mono H1.out.2.size)
      have p0 : w2.cell? ⟨w.heap.size, 0, none⟩ = some (.string (bs m)) := k2.cell 0
      have p1 : w2.cell? ⟨w.heap.size, 1, none⟩ = some (.string (bs t)) := k2.cell 1
      have H2 := Lib.hid h2
      clear k2 h2 g2
      go_wp2_with fail
      go_ret2
      exact ⟨by rw [HR.out, ← req_app]; rfl, H2.out⟩
    · have e1 : ((E : Int) != 0) = true := by rw [bne_iff_ne]; omega
      have HR := Lib.hid hR
      clear hR hE
      go_enter Tryz.func22, Tryz.ntmps22
      go_wp2_with fail
      (with_reducible refine (CI.out _).mono ?_); rintro e w1 ⟨rfl, g1⟩
      have h1 := K0.out w1 g1
      have q1 : w1.cell? ⟨w.heap.size, 1, none⟩ = some (.string (bs t)) := h1.1.cell 1
      have H1 := Lib.hid h1
      clear h1 g1
      go_wp2_with fail
      (with_reducible refine (CT.out _).mono ?_); rintro e w2 ⟨rfl, g2⟩
      go_wp2_with fail
      go_ret2
      exact ⟨by rw [HR.out]; rfl, H1.out.2.trans (g2.mono H1.out.2.size)⟩
end Go.Proofs.YtencphfhpnljlaaGreatDoor
