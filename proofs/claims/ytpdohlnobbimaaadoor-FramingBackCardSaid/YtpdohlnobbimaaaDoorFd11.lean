/-
  Put of both sides.
-/
import Derived.Test.YtpdohlnobbimaaaDoorFd10
namespace Go.Proofs.YtpdohlnobbimaaaDoor
open Go.RowKit

def putE (l : List Fld) (x : Fld) : Nat := if moreE l x = 0 then (if namedL x.1 0 l = [] then addE l x else 0) else moreE l x
def putR (l : List Fld) (x : Fld) : List Fld := if moreE l x = 0 then (if namedL x.1 0 l = [] then addL l x else putL x false l) else []
theorem values_len (nm : List UInt8) (l : List Fld) : (valuesL nm l).length = (namedL nm 0 l).length := by
  rw [← values_named, List.length_map]
theorem moreE_zero {l : List Fld} {x : Fld} (h : moreE l x = 0) : (checkL l).1 = 0 ∧ oneL x = 0 := by
  unfold moreE at h
  split at h
  · rename_i h1; exact absurd h h1
  · rename_i h1; exact ⟨by omega, h⟩

set_option maxRecDepth 100000 in
set_option maxHeartbeats 8000000 in
theorem pPut (A : Option Addr) (n c : Nat) (l : List Fld) (x : Fld) (w : World) (hr : Reads w w.heap.size 2 A n (fldsC l)) (hn : n ≤ 100000) (hl : fldsOk l) (hx1 : x.1.length ≤ 100000) (hx2 : x.2.length ≤ 100000) :
    Calls Tryd.prog 22 #[.slice A n c, .agg #[.string (bs x.1), .string (bs x.2)]] w (FldsPost (putR l x) (putE l x) w) := by
  obtain rfl := hr.flen
  obtain ⟨M, hM⟩ : ∃ M, moreE l x = M := ⟨_, rfl⟩
  unfold putR putE
  rw [hM]
  by_cases hm : M = 0
  · subst hm
    rw [if_pos rfl, if_pos rfl]
    obtain ⟨hk, ho⟩ := moreE_zero hM
    rw [← askL_nil] at hk
    rcases hz : namedL x.1 0 l with _ | ⟨a0, r⟩
    · rw [if_pos rfl, if_pos rfl]
      obtain ⟨W1, hW1⟩ : ∃ W1, w.alloc (.cells #[.string (bs x.1), .string (bs x.2)] 36) = W1 := ⟨_, rfl⟩
      have hB1 : Blk W1 w.heap.size 36 #[.string (bs x.1), .string (bs x.2)] := by rw [← hW1]; exact Blk.new _ _ _
      have hb1 : Below w.heap.size w W1 := by rw [← hW1]; exact (Below.refl _ _).alloc (Nat.le_refl _) _
      have hr1 := (hr.below hb1).more hb1.size
      have cA := pask A none l.length c 0 0 l [] W1 hr1 Reads.none_ hn (by omega) hl (by simp)
      rw [hk, if_pos rfl] at cA
      have CA := Lib.hid cA
      have cO := fun w => pone x w hx1 hx2
      rw [ho] at cO
      unfold fldV at cO
      have CO := Lib.hid cO
      have cN := fun w hr => pnamed A l.length c l (bs x.1) w hr hn hl (by rw [bs_size]; omega)
      rw [bs_list, hz] at cN
      unfold IntsPost at cN
      have CN := Lib.hid cN
      have cD := fun w hr => pAdd A l.length c l x w hr hn hl hx1 hx2
      unfold FldsPost at cD ⊢
      have CD := Lib.hid cD
      have HR := Lib.hid hr
      have HB1 := Lib.hid hB1
      have e1 : (((0 : Nat) : Int) != 0) = false := rfl
      obtain ⟨AL, hAL⟩ : ∃ AL, addL l x = AL := ⟨_, rfl⟩
      obtain ⟨AE, hAE⟩ : ∃ AE, addE l x = AE := ⟨_, rfl⟩
      rw [hAL, hAE] at CD ⊢
      clear hAL hAE cA cO cN cD hr hl hB1 ho hr1 hk hM hz
      go_enter Tryd.func22, Tryd.ntmps22
      go_wp2_with fail
      (with_reducible refine (CA.out).mono ?_); rintro e w2 ⟨rfl, g2⟩
      have hb2 := hb1.trans (g2.mono hb1.size)
      have hB2 := HB1.out.below g2 HB1.out.lt
      obtain ⟨W2, hW2⟩ : ∃ W2, w2.alloc (.cells #[.slice A l.length c, .slice none 0 0] 81) = W2 := ⟨_, rfl⟩
      have hB2' : Blk W2 w.heap.size 36 #[.string (bs x.1), .string (bs x.2)] := by rw [← hW2]; exact hB2.alloc _
      have hb2' : Below w.heap.size w W2 := by rw [← hW2]; exact hb2.alloc hb2.size _
      have HB2 := Lib.hid hB2'
      have d0 : W2.cell? ⟨w.heap.size, 0, none⟩ = some (.string (bs x.1)) := hB2'.cell 0
      have d1 : W2.cell? ⟨w.heap.size, 1, none⟩ = some (.string (bs x.2)) := hB2'.cell 1
      clear g2 hb2 hB2 hB2' hb1
      subst hW2
      go_wp2_with fail
      (with_reducible refine (CO.out _).mono ?_); rintro e w3 ⟨rfl, g3⟩
      have hb3 := hb2'.trans (g3.mono hb2'.size)
      have hB3 := HB2.out.below g3 HB2.out.lt
      have HB3 := Lib.hid hB3
      have e0 : w3.cell? ⟨w.heap.size, 0, none⟩ = some (.string (bs x.1)) := hB3.cell 0
      clear g3 hB3 d0 d1 hb2'
      go_wp2_with fail
      (with_reducible refine (CN.out _ ((HR.out.below hb3).more hb3.size)).mono ?_); rintro e w4 ⟨A1, cap1, rfl, hr4, g4⟩
      have hb4 := hb3.trans (g4.mono hb3.size)
      have hB4 := HB3.out.below g4 HB3.out.lt
      have e3 : w4.cell? ⟨w.heap.size, 0, none⟩ = some (.string (bs x.1)) := hB4.cell 0
      have e4 : w4.cell? ⟨w.heap.size, 1, none⟩ = some (.string (bs x.2)) := hB4.cell 1
      clear g4 hB4 e0 hb3 hr4 e1
      go_wp2_with fail
      (with_reducible refine (CD.out _ ((HR.out.below hb4).more hb4.size)).mono ?_); rintro e w5 ⟨A5, c5, rfl, hc5, hr5, g5⟩
      go_wp2_with fail
      go_ret2
      exact ⟨_, _, rfl, hc5, hr5, hb4.trans (g5.mono hb4.size)⟩
    · rw [if_neg (by simp), if_neg (by simp)]
      exact pPutHit A l.length c l x w hr hn hl hx1 hx2 hk ho a0 r hz
  · rw [if_neg hm, if_neg hm]
    have cO := fun w => pone x w hx1 hx2
    unfold fldV at cO
    obtain ⟨O, hO⟩ : ∃ O, oneL x = O := ⟨_, rfl⟩
    rw [hO] at cO
    have C1 := Lib.hid cO
    obtain ⟨W1, hW1⟩ : ∃ W1, w.alloc (.cells #[.string (bs x.1), .string (bs x.2)] 36) = W1 := ⟨_, rfl⟩
    have hB1 : Blk W1 w.heap.size 36 #[.string (bs x.1), .string (bs x.2)] := by rw [← hW1]; exact Blk.new _ _ _
    have hb1 : Below w.heap.size w W1 := by rw [← hW1]; exact (Below.refl _ _).alloc (Nat.le_refl _) _
    have cA := pask A none l.length c 0 0 l [] W1 ((hr.below hb1).more hb1.size) Reads.none_ hn (by omega) hl (by simp)
    obtain ⟨E, hE⟩ : ∃ E, askL l [] = E := ⟨_, rfl⟩
    rw [hE] at cA
    rw [askL_nil] at hE
    have hM2 : moreE l x = if E ≠ 0 then E else O := by unfold moreE; rw [hE, hO]
    rw [hM] at hM2
    have HB := Lib.hid hB1
    clear cO hO hE hr hB1 hM
    unfold FldsPost
    by_cases he : E = 0
    · subst he
      rw [if_pos rfl] at cA
      rw [if_neg (by simp)] at hM2
      subst hM2
      have CA := Lib.hid cA
      have e1 : (((0 : Nat) : Int) != 0) = false := rfl
      have e2 : ((M : Int) != 0) = true := by rw [bne_iff_ne]; omega
      clear cA
      go_enter Tryd.func22, Tryd.ntmps22
      go_wp2_with fail
      (with_reducible refine (CA.out).mono ?_); rintro e w2 ⟨rfl, g2⟩
      have h2 := hb1.trans (g2.mono hb1.size)
      have HB2 := HB.out.below g2 HB.out.lt
      have h3 := h2.alloc h2.size (.cells #[.slice A l.length c, .slice none 0 0] 81)
      have d0 : (w2.alloc (.cells #[.slice A l.length c, .slice none 0 0] 81)).cell? ⟨w.heap.size, 0, none⟩ = some (.string (bs x.1)) := (HB2.alloc _).cell 0
      have d1 : (w2.alloc (.cells #[.slice A l.length c, .slice none 0 0] 81)).cell? ⟨w.heap.size, 1, none⟩ = some (.string (bs x.2)) := (HB2.alloc _).cell 1
      clear HB2
      go_wp2_with fail
      (with_reducible refine (C1.out _).mono ?_); rintro e w4 ⟨rfl, g4⟩
      go_wp2_with fail
      go_ret2
      exact ⟨none, 0, rfl, Nat.zero_le _, Reads.none_, h3.trans (g4.mono h3.size)⟩
    · rw [if_neg he] at cA
      rw [if_pos he] at hM2
      subst hM2
      unfold nilAsk at cA
      have CA := Lib.hid cA
      have e2 : ((M : Int) != 0) = true := by rw [bne_iff_ne]; omega
      clear cA
      go_enter Tryd.func22, Tryd.ntmps22
      go_wp2_with fail
      (with_reducible refine (CA.out).mono ?_); rintro e w2 ⟨rfl, g2⟩
      have h2 := hb1.trans (g2.mono hb1.size)
      go_wp2_with fail
      go_ret2
      exact ⟨none, 0, rfl, Nat.zero_le _, Reads.none_, h2.alloc h2.size _⟩
end Go.Proofs.YtpdohlnobbimaaaDoor
