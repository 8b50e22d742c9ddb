/-
  Check, Left, Fields, Bytes of framings: the program and the reference.
-/
import Derived.Test.YtencphfhpnljlaaGreatDoorWf
import Derived.Test.YtencphfhpnljlaaGreatDoorWe1
namespace Go.Proofs.YtencphfhpnljlaaGreatDoor

section
open Go.RowKit

/-- whether a framing is valid: the error -/
def ckT (K n : Int) : Nat := if K < 1 ∨ 3 < K then 10 else if n < 0 ∨ 2048 < n ∨ (K ≠ 2 ∧ n ≠ 0) then 2 else 0
theorem ckT_ok {K n : Int} (h : ckT K n = 0) : 1 ≤ K ∧ K ≤ 3 ∧ 0 ≤ n ∧ n ≤ 2048 ∧ (K = 2 ∨ n = 0) := by
  unfold ckT at h
  split at h
  · simp at h
  · split at h
    · simp at h
    · omega

theorem ck10 {K n : Int} (h : K < 1 ∨ 3 < K) : ckT K n = 10 := if_pos h
theorem ck2 {K n : Int} (h1 : 1 ≤ K ∧ K ≤ 3) (h : n < 0 ∨ 2048 < n ∨ (K ≠ 2 ∧ n ≠ 0)) : ckT K n = 2 := by
  unfold ckT; rw [if_neg (by omega), if_pos h]
theorem ck0 {K n : Int} (h1 : 1 ≤ K ∧ K ≤ 3) (h : 0 ≤ n ∧ n ≤ 2048 ∧ (K = 2 ∨ n = 0)) : ckT K n = 0 := by
  unfold ckT; rw [if_neg (by omega), if_neg (by omega)]
set_option maxRecDepth 100000 in
set_option maxHeartbeats 4000000 in
theorem pCheckFr (K n : Int) (w : World) : Calls Tryz.prog 44 #[.agg #[.int .i64 K, .int .i64 n]] w fun e w' => e = .returned (.int .i64 (ckT K n : Nat)) ∧ Below w.heap.size w w' := by
  obtain ⟨R, hR⟩ : ∃ R, ckT K n = R := ⟨_, rfl⟩
  rw [hR]
  have HR := Lib.hid hR
  clear hR
  go_enter Tryz.func44, Tryz.ntmps44
  go_wp2_with fail
  all_goals (
    go_ret
    refine ⟨?_, (Below.refl _ _).alloc (Nat.le_refl _) _⟩
    rw [← HR.out]
    clear HR
    try simp only [bne_iff_ne, bne_eq_false_iff_eq, ne_eq] at *
    first
      | (rw [ck10 (by omega)]; rfl)
      | (rw [ck2 (by omega) (by omega)]; rfl)
      | (rw [ck0 (by omega) (by omega)]; rfl))
set_option maxRecDepth 100000 in
set_option maxHeartbeats 4000000 in
theorem rCheck (K n : Int) (w : World) : Calls Tryz.prog 57 #[.agg #[.int .i64 K, .int .i64 n]] w fun e w' => e = .returned (.int .i64 (ckT K n : Nat)) ∧ Below w.heap.size w w' := by
  obtain ⟨R, hR⟩ : ∃ R, ckT K n = R := ⟨_, rfl⟩
  rw [hR]
  have HR := Lib.hid hR
  clear hR
  go_enter Tryz.func57, Tryz.ntmps57
  go_wp2_with fail
  all_goals (
    go_ret
    refine ⟨?_, (Below.refl _ _).alloc (Nat.le_refl _) _⟩
    rw [← HR.out]
    clear HR
    try simp only [bne_iff_ne, bne_eq_false_iff_eq, ne_eq] at *
    first
      | (rw [ck10 (by omega)]; rfl)
      | (rw [ck2 (by omega) (by omega)]; rfl)
      | (rw [ck0 (by omega) (by omega)]; rfl))
-- printed by genf9.py from here on
/-- what is left of a body, or the error -/
def leftT (K n got : Int) : Int × Nat := if ckT K n ≠ 0 then (0, ckT K n) else if got < 0 ∨ (K ≠ 3 ∧ n < got) then (0, 2) else if K = 3 then (-1, 0) else (n - got, 0)
/-- the bytes that carry a body, or the error -/
def bytesT (K n : Int) (b : List UInt8) : List UInt8 × Nat :=
  if ckT K n ≠ 0 then ([], ckT K n) else if 2048 < b.length then ([], 4) else if K ≠ 3 ∧ (b.length : Int) ≠ n then ([], 3) else if K ≠ 3 then (b, 0)
  else ((if b = [] then [] else hexDigits b.length ++ [13, 10] ++ b ++ [13, 10]) ++ [48, 13, 10, 13, 10], 0)
/-- the fields of a framing, or the error -/
def fieldsT (K n : Int) : List Fld × Nat :=
  if ckT K n ≠ 0 then ([], ckT K n) else if K = 2 then ([(clN, Lib.decDigits n.toNat)], 0) else if K = 3 then ([(teN, ckN)], 0) else ([], 0)
theorem left_e {K n got : Int} {E : Nat} (h : ckT K n = E) (hE : E ≠ 0) : leftT K n got = (0, E) := by unfold leftT; rw [h, if_pos hE]
theorem left_0 {K n got : Int} (h : ckT K n = 0) : leftT K n got = if got < 0 ∨ (K ≠ 3 ∧ n < got) then (0, 2) else if K = 3 then (-1, 0) else (n - got, 0) := by unfold leftT; rw [h, if_neg (by simp)]
theorem fields_e {K n : Int} {E : Nat} (h : ckT K n = E) (hE : E ≠ 0) : fieldsT K n = ([], E) := by unfold fieldsT; rw [h, if_pos hE]
theorem fields_0 {K n : Int} (h : ckT K n = 0) : fieldsT K n = if K = 2 then ([(clN, Lib.decDigits n.toNat)], 0) else if K = 3 then ([(teN, ckN)], 0) else ([], 0) := by unfold fieldsT; rw [h, if_neg (by simp)]
theorem bytes_e {K n : Int} {b : List UInt8} {E : Nat} (h : ckT K n = E) (hE : E ≠ 0) : bytesT K n b = ([], E) := by unfold bytesT; rw [h, if_pos hE]
theorem bytes_0 {K n : Int} {b : List UInt8} (h : ckT K n = 0) : bytesT K n b = if 2048 < b.length then ([], 4) else if K ≠ 3 ∧ (b.length : Int) ≠ n then ([], 3) else if K ≠ 3 then (b, 0) else ((if b = [] then [] else hexDigits b.length ++ [13, 10] ++ b ++ [13, 10]) ++ [48, 13, 10, 13, 10], 0) := by unfold bytesT; rw [h, if_neg (by simp)]
/-- fields handed back, and an error -/
def FldsPost9 (t : List Fld × Nat) (w : World) (e : Ending) (w' : World) : Prop :=
  ∃ A cap, e = .returned (.tuple #[.slice A t.1.length cap, .int .i64 t.2]) ∧ t.1.length ≤ cap ∧ Reads w' w'.heap.size 2 A t.1.length (fldsC t.1) ∧ Below w.heap.size w w'

set_option maxRecDepth 100000 in
set_option maxHeartbeats 8000000 in
theorem pBytes (K n : Int) (s : ByteArray) (hs : s.size ≤ 1000000) (w : World) (htab : Tabs w) : Calls Tryz.prog 25 #[.agg #[.int .i64 K, .int .i64 n], .string s] w fun e w' => e = .returned (.tuple #[.string (bs (bytesT K n s.data.toList).1), .int .i64 (bytesT K n s.data.toList).2]) ∧ Below w.heap.size w w' := by
  have hb0 : Below w.heap.size w (w.alloc (.cells #[.int .i64 K, .int .i64 n] 63)) := (Below.refl _ _).alloc (Nat.le_refl _) _
  have m0 := Blk.new w 63 #[.int .i64 K, .int .i64 n]
  have CK := Lib.hid (pCheckFr K n)
  obtain ⟨E, hE⟩ : ∃ E, ckT K n = E := ⟨_, rfl⟩
  rw [hE] at CK
  obtain ⟨R, hR⟩ : ∃ R, bytesT K n s.data.toList = R := ⟨_, rfl⟩
  rw [hR]
  by_cases h0 : E = 0
  · subst h0
    rw [bytes_0 hE, size_l] at hR
    obtain ⟨k1, k3, n0, n2, kn⟩ := ckT_ok hE
    have HR := Lib.hid hR
    have HB := Lib.hid (And.intro hb0 m0)
    have HT := Lib.hid htab
    have e0 : (((0 : Nat) : Int) != 0) = false := rfl
    clear hR hb0 m0 hE
    go_enter Tryz.func25, Tryz.ntmps25
    go_wp2_with fail
    (with_reducible refine (CK.out _).mono ?_); rintro e w1 ⟨rfl, g1⟩
    have h1 := HB.out.1.trans (g1.mono HB.out.1.size)
    have m1 := HB.out.2.below g1 HB.out.2.lt
    have q0 : w1.cell? ⟨w.heap.size, 0, none⟩ = some (.int .i64 K) := m1.cell 0
    have q1 : w1.cell? ⟨w.heap.size, 1, none⟩ = some (.int .i64 n) := m1.cell 1
    clear HB g1 m1
    by_cases hl : 2048 < s.size
    · have dl : decide ((2048 : Int) < (s.size : Int)) = true := by simp; omega
      have hres : R = ([], 4) := by rw [← HR.out, if_pos hl]
      subst hres
      go_wp2_with fail
      go_ret2
      exact ⟨rfl, h1⟩
    · have dl : decide ((2048 : Int) < (s.size : Int)) = false := by simp; omega
      rw [if_neg hl] at HR
      by_cases hk : K = 3
      · subst hk
        rw [if_neg (by simp), if_neg (by simp)] at HR
        by_cases hb : s.size = 0
        · have hem : s.toList.isEmpty = true := emp_t hb
          have hnil : s.data.toList = [] := List.eq_nil_of_length_eq_zero (by rw [size_l]; exact hb)
          rw [if_pos hnil] at HR
          have hres : R = ([48, 13, 10, 13, 10], 0) := by rw [← HR.out]; rfl
          subst hres
          clear hnil hb
          go_wp2_with fail
          go_ret2
          exact ⟨rfl, h1⟩
        · have hem : s.toList.isEmpty = false := emp_f hb
          have hnil : ¬ s.data.toList = [] := fun h => hb (by rw [← size_l, h]; rfl)
          rw [if_neg hnil] at HR
          have cI : ∀ w, Tabs w → Calls Tryz.prog 45 #[.int .i64 (s.size : Int), .int .i64 16] w fun e w' => e = .returned (.string (bs (hexDigits s.size))) ∧ Below w.heap.size w w' := fun w ht => FormatInt16 s.size (by omega) w ht
          have hxl := hex_len 3 s.size (by omega)
          obtain ⟨hx, hhx⟩ : ∃ hx : ByteArray, bs (hexDigits s.size) = hx := ⟨_, rfl⟩
          have hxs : hx.size ≤ 4 := by rw [← hhx, bs_size]; exact hxl
          have HU : Hid ((((hx ++ ⟨#[13, 10]⟩) ++ s) ++ ⟨#[13, 10]⟩) ++ ⟨#[48, 13, 10, 13, 10]⟩ = bs R.1 ∧ R.2 = 0) := by
            show _ ∧ _
            rw [← HR.out]
            refine ⟨?_, rfl⟩
            rw [← hhx]
            exact ba_ext (by first | (simp only [append_toList, bs_list]; done) | (simp only [append_toList, bs_list]; simp))
          rw [hhx] at cI
          have CI := Lib.hid cI
          clear cI hnil hb hhx hxl
          go_wp2_with fail
          (with_reducible refine (CI.out _ (HT.out.below h1)).mono ?_); rintro e w2 ⟨rfl, g2⟩
          have h2 := h1.trans (g2.mono h1.size)
          clear q0 q1
          go_wp2_with fail
          go_ret2
          refine ⟨?_, h2⟩
          rw [← HU.out.1, HU.out.2]
          rfl
      · have dk : (K != 3) = true := by simp [hk]
        by_cases hg : (s.size : Int) = n
        · have d1 : ((s.size : Int) != n) = false := by simp [hg]
          have hres : R = (s.data.toList, 0) := by rw [← HR.out, if_neg (by simp [hg]), if_pos hk]
          subst hres
          clear hk hg
          go_wp2_with fail
          go_ret2
          exact ⟨rfl, h1⟩
        · have d1 : ((s.size : Int) != n) = true := by simp [hg]
          have hres : R = ([], 3) := by rw [← HR.out, if_pos ⟨hk, hg⟩]
          subst hres
          clear hk hg
          go_wp2_with fail
          go_ret2
          exact ⟨rfl, h1⟩
  · rw [bytes_e hE h0] at hR
    subst hR
    have HB := Lib.hid hb0
    have e0 : ((E : Int) != 0) = true := by rw [bne_iff_ne]; omega
    clear hb0 m0 hE
    go_enter Tryz.func25, Tryz.ntmps25
    go_wp2_with fail
    (with_reducible refine (CK.out _).mono ?_); rintro e w1 ⟨rfl, g1⟩
    have h1 := HB.out.trans (g1.mono HB.out.size)
    go_wp2_with fail
    go_ret2
    exact ⟨rfl, h1⟩

set_option maxRecDepth 100000 in
set_option maxHeartbeats 8000000 in
theorem rBytes (K n : Int) (s : ByteArray) (hs : s.size ≤ 1000000) (w : World) : Calls Tryz.prog 33 #[.agg #[.int .i64 K, .int .i64 n], .string s] w fun e w' => e = .returned (.tuple #[.string (bs (bytesT K n s.data.toList).1), .int .i64 (bytesT K n s.data.toList).2]) ∧ Below w.heap.size w w' := by
  have hb0 : Below w.heap.size w (w.alloc (.cells #[.int .i64 K, .int .i64 n] 63)) := (Below.refl _ _).alloc (Nat.le_refl _) _
  have m0 := Blk.new w 63 #[.int .i64 K, .int .i64 n]
  have CK := Lib.hid (rCheck K n)
  obtain ⟨E, hE⟩ : ∃ E, ckT K n = E := ⟨_, rfl⟩
  rw [hE] at CK
  obtain ⟨R, hR⟩ : ∃ R, bytesT K n s.data.toList = R := ⟨_, rfl⟩
  rw [hR]
  by_cases h0 : E = 0
  · subst h0
    rw [bytes_0 hE, size_l] at hR
    obtain ⟨k1, k3, n0, n2, kn⟩ := ckT_ok hE
    have HR := Lib.hid hR
    have HB := Lib.hid (And.intro hb0 m0)
    skip
    have e0 : (((0 : Nat) : Int) != 0) = false := rfl
    clear hR hb0 m0 hE
    go_enter Tryz.func33, Tryz.ntmps33
    go_wp2_with fail
    (with_reducible refine (CK.out _).mono ?_); rintro e w1 ⟨rfl, g1⟩
    have h1 := HB.out.1.trans (g1.mono HB.out.1.size)
    have m1 := HB.out.2.below g1 HB.out.2.lt
    have q0 : w1.cell? ⟨w.heap.size, 0, none⟩ = some (.int .i64 K) := m1.cell 0
    have q1 : w1.cell? ⟨w.heap.size, 1, none⟩ = some (.int .i64 n) := m1.cell 1
    clear HB g1 m1
    by_cases hl : 2048 < s.size
    · have dl : decide ((2048 : Int) < (s.size : Int)) = true := by simp; omega
      have hres : R = ([], 4) := by rw [← HR.out, if_pos hl]
      subst hres
      go_wp2_with fail
      go_ret2
      exact ⟨rfl, h1⟩
    · have dl : decide ((2048 : Int) < (s.size : Int)) = false := by simp; omega
      rw [if_neg hl] at HR
      by_cases hk : K = 3
      · subst hk
        rw [if_neg (by simp), if_neg (by simp)] at HR
        by_cases hb : s.size = 0
        · have hem : s.toList.isEmpty = true := emp_t hb
          have hnil : s.data.toList = [] := List.eq_nil_of_length_eq_zero (by rw [size_l]; exact hb)
          rw [if_pos hnil] at HR
          have hres : R = ([48, 13, 10, 13, 10], 0) := by rw [← HR.out]; rfl
          subst hres
          clear hnil hb
          go_wp2_with fail
          go_ret2
          exact ⟨rfl, h1⟩
        · have hem : s.toList.isEmpty = false := emp_f hb
          have hnil : ¬ s.data.toList = [] := fun h => hb (by rw [← size_l, h]; rfl)
          rw [if_neg hnil] at HR
          have cI := fun w => rWritten16 s.size (by omega) w
          have hxl := hex_len 3 s.size (by omega)
          obtain ⟨hx, hhx⟩ : ∃ hx : ByteArray, bs (hexDigits s.size) = hx := ⟨_, rfl⟩
          have hxs : hx.size ≤ 4 := by rw [← hhx, bs_size]; exact hxl
          have HU : Hid (((hx ++ ⟨#[13, 10]⟩) ++ s) ++ ⟨#[13, 10, 48, 13, 10, 13, 10]⟩ = bs R.1 ∧ R.2 = 0) := by
            show _ ∧ _
            rw [← HR.out]
            refine ⟨?_, rfl⟩
            rw [← hhx]
            exact ba_ext (by first | (simp only [append_toList, bs_list]; done) | (simp only [append_toList, bs_list]; simp))
          rw [hhx] at cI
          have CI := Lib.hid cI
          clear cI hnil hb hhx hxl
          go_wp2_with fail
          (with_reducible refine (CI.out _).mono ?_); rintro e w2 ⟨rfl, g2⟩
          obtain ⟨mm, rfl⟩ := g2
          have g2 := below_drewN (Below.refl w1.heap.size w1) mm
          generalize w1.drewN mm = w2 at g2 ⊢
          have h2 := h1.trans (g2.mono h1.size)
          clear q0 q1
          go_wp2_with fail
          go_ret2
          refine ⟨?_, h2⟩
          rw [← HU.out.1, HU.out.2]
          rfl
      · have dk : (K != 3) = true := by simp [hk]
        by_cases hg : (s.size : Int) = n
        · have d1 : ((s.size : Int) != n) = false := by simp [hg]
          have hres : R = (s.data.toList, 0) := by rw [← HR.out, if_neg (by simp [hg]), if_pos hk]
          subst hres
          clear hk hg
          go_wp2_with fail
          go_ret2
          exact ⟨rfl, h1⟩
        · have d1 : ((s.size : Int) != n) = true := by simp [hg]
          have hres : R = ([], 3) := by rw [← HR.out, if_pos ⟨hk, hg⟩]
          subst hres
          clear hk hg
          go_wp2_with fail
          go_ret2
          exact ⟨rfl, h1⟩
  · rw [bytes_e hE h0] at hR
    subst hR
    have HB := Lib.hid hb0
    have e0 : ((E : Int) != 0) = true := by rw [bne_iff_ne]; omega
    clear hb0 m0 hE
    go_enter Tryz.func33, Tryz.ntmps33
    go_wp2_with fail
    (with_reducible refine (CK.out _).mono ?_); rintro e w1 ⟨rfl, g1⟩
    have h1 := HB.out.trans (g1.mono HB.out.size)
    go_wp2_with fail
    go_ret2
    exact ⟨rfl, h1⟩
end
end Go.Proofs.YtencphfhpnljlaaGreatDoor
