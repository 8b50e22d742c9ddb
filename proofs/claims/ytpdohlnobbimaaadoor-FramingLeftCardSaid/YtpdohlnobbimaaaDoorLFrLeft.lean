/-
  FramingLeft, the law.
-/
import Derived.Test.YtpdohlnobbimaaaDoorFrA
import Derived.Test.YtpdohlnobbimaaaDoorLFrKnown
import Derived.Test.YtpdohlnobbimaaaDoorFrMd
namespace Go.Proofs.YtpdohlnobbimaaaDoor
open Go.RowKit

theorem hexDigits_pos (u : Nat) : 1 ≤ (hexDigits u).length := by
  rw [hexDigits]
  split <;> simp
theorem bytes3_facts (b : List UInt8) (hb : b.length ≤ 300) : (bytesT 3 0 b).2 = 0 ∧ 5 ≤ (bytesT 3 0 b).1.length ∧ (bytesT 3 0 b).1.drop ((bytesT 3 0 b).1.length - 5) = [48, 13, 10, 13, 10] ∧ (b ≠ [] → b.length + 9 < (bytesT 3 0 b).1.length) ∧ (bytesT 3 0 b).1.length ≤ 2000 := by
  have h0 : ckT 3 0 = 0 := ck0 (by omega) (by omega)
  rw [bytes_0 h0, if_neg (by omega), if_neg (by omega), if_neg (by omega)]
  simp only
  generalize hP : (if b = [] then [] else hexDigits b.length ++ [13, 10] ++ b ++ [13, 10]) = P
  have hl : (P ++ [48, 13, 10, 13, 10]).length = P.length + 5 := by simp
  refine ⟨trivial, by rw [hl]; omega, by rw [hl, Nat.add_sub_cancel, List.drop_left], ?_, ?_⟩
  · intro hb0
    rw [if_neg hb0] at hP
    have := hexDigits_pos b.length
    rw [hl, ← hP]
    simp
    omega
  · rw [hl, ← hP]
    split
    · simp
    · have : (hexDigits b.length).length ≤ 300 := by
        by_cases h16 : b.length < 16
        · rw [hexDigits_small h16]; simp
        · rw [hexDigits_big h16]
          by_cases h256 : b.length / 16 < 16
          · rw [hexDigits_small h256]; simp
          · rw [hexDigits_big h256, hexDigits_small (by omega)]; simp
      simp
      omega
theorem bytes2_facts (b : List UInt8) (hb : b.length ≤ 300) : bytesT 2 (b.length : Int) b = (b, 0) := by
  have h0 : ckT 2 (b.length : Int) = 0 := ck0 (by omega) (by omega)
  rw [bytes_0 h0, if_neg (by omega), if_neg (by omega), if_pos (by omega)]

set_option maxRecDepth 100000 in
set_option maxHeartbeats 16000000 in
theorem FramingLeft_true (k n0 got : Int) (s : ByteArray) (w : World) (hk1 : -9223372036854775808 ≤ k) (hk2 : k ≤ 9223372036854775807) (hn1 : -9223372036854775808 ≤ n0) (hn2 : n0 ≤ 9223372036854775807) (hg1 : -9223372036854775808 ≤ got) (hg2 : got ≤ 9223372036854775807) (hss : s.size ≤ 9223372036854775807) (htab : Tabs w) :
    Calls Tryd.prog 8 #[.int .i64 k, .int .i64 n0, .int .i64 got, .string s] w fun e w' => e = .returned (.bool true) ∧ Below w.heap.size w w' := by
  have CMD := Lib.hid (fun w => made_any k n0 w hk1 hk2 hn1 hn2)
  have CMO := Lib.hid (fun m w hm hm2 => Mod_is got m w hg1 hg2 hm hm2)
  have TB := Lib.hid (fun X (h : Below w.heap.size w X) => htab.below h)
  clear htab hk1 hk2 hn1 hn2 hg1 hg2
  go_enter Tryd.func8, Tryd.ntmps8
  go_wp2_with fail
  (with_reducible refine (FramingKnown_true _ (TB.out _ (Below.refl _ _))).mono ?_); rintro e w1 ⟨rfl, g⟩
  have h1 := g
  clear g
  go_wp2_with fail
  (with_reducible refine (CMD.out _).mono ?_); rintro e w2 ⟨K, n, rfl, hK1, hK3, hn, hKn, g⟩
  have h2 := h1.trans (g.mono h1.size)
  clear g h1
  clear CMD
  have hS : decide ((s.size : Int) ≤ 300) = decide (s.size ≤ 300) := by rw [Bool.eq_iff_iff, decide_eq_true_iff, decide_eq_true_iff]; omega
  have HA := Lib.hid (And.intro hK1 (And.intro hK3 (And.intro hn hKn)))
  clear hK1 hK3 hn hKn
  have hb3 : Below w.heap.size w (w2.alloc (.cells #[.int .i64 (K : Int), .int .i64 (n : Int)] 48)) := h2.alloc h2.size _
  have mB : Blk (w2.alloc (.cells #[.int .i64 (K : Int), .int .i64 (n : Int)] 48)) w2.heap.size 48 #[.int .i64 (K : Int), .int .i64 (n : Int)] := Blk.new _ _ _
  have hge : w.heap.size ≤ w2.heap.size := h2.size
  have HGE := Lib.hid hge
  clear hge h2
  have B1 := Lib.hid mB
  clear mB
  obtain ⟨w30, hW3⟩ : ∃ w30, w2.alloc (.cells #[.int .i64 (K : Int), .int .i64 (n : Int)] 48) = w30 := ⟨_, rfl⟩
  by_cases hs : s.size ≤ 300
  · have hs1 : decide ((s.size : Int) ≤ 300) = true := by simp; omega
    obtain ⟨f1, f2, f3, f4, f5⟩ := bytes3_facts s.data.toList (by rw [size_l]; exact hs)
    have c1 := fun w ht => pBytes 3 0 s (by omega) w ht
    have c2 := fun w ht => pBytes 2 (s.data.toList.length : Int) s (by omega) w ht
    rw [bytes2_facts s.data.toList (by rw [size_l]; exact hs)] at c2
    rw [size_l] at c2 f4
    obtain ⟨⟨BT, E⟩, hBT⟩ : ∃ z, bytesT 3 0 s.data.toList = z := ⟨_, rfl⟩
    rw [hBT] at c1 f1 f2 f3 f4 f5
    simp only at c1 c2 f1 f2 f3 f4 f5
    subst f1
    obtain ⟨bt, hbt⟩ : ∃ bt, bs BT = bt := ⟨_, rfl⟩
    have hsz : bt.size = BT.length := by rw [← hbt]; exact bs_size _
    rw [hbt] at c1
    rw [show bs s.data.toList = s from rfl] at c2
    have d1 : decide ((bt.size : Int) < 5) = false := by simp; omega
    have hext : bt.extract (bt.size - 5) bt.size = ⟨#[48, 13, 10, 13, 10]⟩ := by
      have hx : (bt.extract (bt.size - 5) bt.size).data.toList = [48, 13, 10, 13, 10] := by
        rw [ext_list bt _ _ (by omega) (Nat.le_refl _)]
        have ht : bt.data.toList = BT := by rw [← hbt]; rfl
        rw [ht, hsz, List.take_length, f3]
      exact ByteArray.ext (Array.toList_inj.1 hx)
    have hext2 : (bt.extract (bt.size - 5) bt.size).toList = [48, 13, 10, 13, 10] := by rw [hext]; decide +kernel
    have hw : wrap64 ((bt.size : Int) - 5) = ((bt.size - 5 : Nat) : Int) := by unfold wrap64; omega
    have b5 : (5 : Int) ≤ (bt.size : Int) := by omega
    have b6 : (bt.size - 5 : Nat) ≤ bt.size := by omega
    have d2 : s.toList.isEmpty = false → decide ((bt.size : Int) ≤ (s.size : Int) + 9) = false := fun h => by
      have : s.data.toList ≠ [] := fun e => by rw [emp_t (by rw [← size_l, e]; rfl)] at h; cases h
      have := f4 this
      simp
      omega
    have hbb : bt.size ≤ 2000 := by omega
    have C1 := Lib.hid c1
    have C2 := Lib.hid c2
    have D2 := Lib.hid d2
    have HS := Lib.hid (And.intro hsz hs)
    clear c1 c2 d2 f2 f3 f4 f5 hbt hBT hS hsz hext hs
    have q0 : (w2.alloc (.cells #[.int .i64 (K : Int), .int .i64 (n : Int)] 48)).cell? ⟨w2.heap.size, 0, none⟩ = some (.int .i64 (K : Int)) := B1.out.cell 0
    have q1 : (w2.alloc (.cells #[.int .i64 (K : Int), .int .i64 (n : Int)] 48)).cell? ⟨w2.heap.size, 1, none⟩ = some (.int .i64 (n : Int)) := B1.out.cell 1
    rw [hW3] at q0 q1 hb3 B1
    have h2 := hb3
    clear hb3
    go_wp2_with fail
    clear q0 q1
    (with_reducible refine (C1.out _ (TB.out _ h2)).mono ?_); rintro e w3 ⟨rfl, g⟩
    have h3 := h2.trans (g.mono h2.size)
    have B1 := Lib.hid (B1.out.below g B1.out.lt)
    clear g h2 hW3
    go_wp2_with fail
    (with_reducible refine (C2.out _ (TB.out _ h3)).mono ?_); rintro e w4 ⟨rfl, g⟩
    have h4 := h3.trans (g.mono h3.size)
    have B1 := Lib.hid (B1.out.below g B1.out.lt)
    clear g h3
    have q0 : w4.cell? ⟨w2.heap.size, 0, none⟩ = some (.int .i64 (K : Int)) := B1.out.cell 0
    have q1 : w4.cell? ⟨w2.heap.size, 1, none⟩ = some (.int .i64 (n : Int)) := B1.out.cell 1
    cases hem : s.toList.isEmpty with
    | true =>
      have hem2 : s.toList = [] := List.isEmpty_iff.1 hem
      obtain ⟨hK1, hK3, hn, hKn⟩ := HA.out
      by_cases hK : K = 3
      · have hn0 : n = 0 := by omega
        subst hK hn0
        have e3 : (((3 : Nat) : Int) == 3) = true := rfl
        obtain ⟨r, hr⟩ : ∃ r, modV got 5000 = r := ⟨_, rfl⟩
        have hrb := modV_at got 5000 (by omega)
        rw [hr] at hrb
        have cL := pLeft 3 0 r
        rw [left_0 (ck0 (by omega) (by omega)), if_neg (by omega), if_pos rfl] at cL
        simp only at cL
        have cM := fun w => CMO.out 5000 w (by omega) (by omega)
        rw [hr] at cM
        have z3 : ((3 : Nat) : Int) = 3 := rfl
        have z0 : ((0 : Nat) : Int) = 0 := rfl
        rw [z3] at q0 B1 e3
        rw [z0] at q1 B1
        have SS : ∀ X, Hid (Below w4.heap.size w4 X) → (X.cell? ⟨w2.heap.size, 0, none⟩ = some (.int .i64 3) ∧ X.cell? ⟨w2.heap.size, 1, none⟩ = some (.int .i64 0)) := fun X hX => by
          have k := B1.out.below hX.out B1.out.lt
          exact ⟨k.cell 0, k.cell 1⟩
        have KM : Hid (∀ X, Hid (Below w4.heap.size w4 X) → Calls Tryd.prog 39 #[.int .i64 got, .int .i64 5000] X fun e w' => e = .returned (.int .i64 r) ∧ Hid (Below w4.heap.size w4 w') ∧ (w'.cell? ⟨w2.heap.size, 0, none⟩ = some (.int .i64 3) ∧ w'.cell? ⟨w2.heap.size, 1, none⟩ = some (.int .i64 0))) := hide fun X hX => (cM X).mono fun e w' ⟨he, hb⟩ => ⟨he, hb ▸ hX, SS _ (hb ▸ hX)⟩
        have KL : Hid (∀ X, Hid (Below w4.heap.size w4 X) → Calls Tryd.prog 37 #[.agg #[.int .i64 3, .int .i64 0], .int .i64 r] X fun e w' => e = .returned (.tuple #[.int .i64 (-1), .int .i64 0]) ∧ Hid (Below w4.heap.size w4 w') ∧ (w'.cell? ⟨w2.heap.size, 0, none⟩ = some (.int .i64 3) ∧ w'.cell? ⟨w2.heap.size, 1, none⟩ = some (.int .i64 0))) := hide fun X hX => (cL X).mono fun e w' ⟨he, hb⟩ => ⟨he, hide (hX.out.trans (hb.mono hX.out.size)), SS _ (hide (hX.out.trans (hb.mono hX.out.size)))⟩
        have HD0 : Hid (Below w4.heap.size w4 w4.drew) := hide (Below.refl _ _).drew
        have y0 : w4.drew.cell? ⟨w2.heap.size, 0, none⟩ = some (.int .i64 3) := q0
        have y1 : w4.drew.cell? ⟨w2.heap.size, 1, none⟩ = some (.int .i64 0) := q1
        clear SS cM cL hr z3 z0
        go_wp2_with fail
        go_region_held3 (fun w' => w'.cell? ⟨w2.heap.size, 0, none⟩ = some (.int .i64 3) ∧ w'.cell? ⟨w2.heap.size, 1, none⟩ = some (.int .i64 0)) (go_keep)
      (first
        | (go_at_call 39; (with_reducible refine (KM.out _ (by assumption)).mono ?_); rintro r' va ⟨rfl, hva, va0, va1⟩)
        | (go_at_call 37; (with_reducible refine (KL.out _ (by assumption)).mono ?_); rintro r' vb ⟨rfl, hvb, vb0, vb1⟩))
        rename World => wz
        have g := hvb.out
        clear KM KL HD0 y0 y1 va0 va1 vb0 vb1 hva hvb q0 q1
        go_wp2_with fail
        go_ret
        exact ⟨rfl, h4.trans (g.mono h4.size)⟩
      · have e3 : (((K : Nat) : Int) == 3) = false := by rw [beq_eq_false_iff_ne]; omega
        obtain ⟨m, hm⟩ : ∃ m, modV got ((n : Int) + 1) = m := ⟨_, rfl⟩
        have hmb := modV_at got ((n : Int) + 1) (by omega)
        rw [hm] at hmb
        have cM := fun w => CMO.out ((n : Int) + 1) w (by omega) (by omega)
        rw [hm] at cM
        have CM := Lib.hid cM
        have h0c : ckT (K : Int) (n : Int) = 0 := ck0 (by omega) (by omega)
        have c1 := pLeft K n m
        rw [left_0 h0c, if_neg (by omega), if_neg (by omega)] at c1
        simp only at c1
        have C1 := Lib.hid c1
        have HM := Lib.hid (And.intro h0c (And.intro hm hmb))
        clear cM c1 hm hmb h0c
        go_wp2_with fail
        (with_reducible refine (CM.out _).mono ?_); rintro e w5 ⟨rfl, rfl⟩
        have hmb := HM.out.2.2
        go_wp2_with fail
        clear q0 q1
        (with_reducible refine (C1.out _).mono ?_); rintro e w5 ⟨rfl, g⟩
        have h5 := h4.trans (g.mono h4.size)
        have B1 := Lib.hid (B1.out.below g B1.out.lt)
        clear g h4
        have q0 : w5.cell? ⟨w2.heap.size, 0, none⟩ = some (.int .i64 (K : Int)) := B1.out.cell 0
        have q1 : w5.cell? ⟨w2.heap.size, 1, none⟩ = some (.int .i64 (n : Int)) := B1.out.cell 1
        by_cases hm : m = n
        · have c2 := pLeft K n (m + 1)
          rw [left_0 HM.out.1, if_pos (.inr ⟨by omega, by omega⟩)] at c2
          simp only at c2
          have C2 := Lib.hid c2
          have d1 : (((n : Int) - m) == ((n : Int) - m)) = true := by simp
          have d2 : (((n : Int) - m) == 0) = true := by rw [beq_iff_eq]; omega
          have HN := Lib.hid hm
          clear c2 hm
          go_wp2_with fail
          clear q0 q1
          (with_reducible refine (C2.out _).mono ?_); rintro e w6 ⟨rfl, g⟩
          have h6 := h5.trans (g.mono h5.size)
          have B1 := Lib.hid (B1.out.below g B1.out.lt)
          clear g h5
          have q0 : w6.cell? ⟨w2.heap.size, 0, none⟩ = some (.int .i64 (K : Int)) := B1.out.cell 0
          have q1 : w6.cell? ⟨w2.heap.size, 1, none⟩ = some (.int .i64 (n : Int)) := B1.out.cell 1
          go_wp2_with fail
          go_ret
          exact ⟨rfl, h6⟩
        · have c2 := pLeft K n (m + 1)
          rw [left_0 HM.out.1, if_neg (by omega), if_neg (by omega)] at c2
          simp only at c2
          have C2 := Lib.hid c2
          have d1 : (((n : Int) - m) == ((n : Int) - m)) = true := by simp
          have d2 : (((n : Int) - m) == 0) = false := by rw [beq_eq_false_iff_ne]; omega
          have d5 : ¬ ((n : Int) ≤ m) := by omega
          have d6 : m < (n : Int) := by omega
          have d3 : decide ((0 : Int) < (n : Int) - m) = true := by simp; omega
          have d4 : (((n : Int) - (m + 1)) == ((n : Int) - m - 1)) = true := by rw [beq_iff_eq]; omega
          have HN := Lib.hid hm
          clear c2 hm
          go_wp2_with fail
          clear q0 q1
          (with_reducible refine (C2.out _).mono ?_); rintro e w6 ⟨rfl, g⟩
          have h6 := h5.trans (g.mono h5.size)
          have B1 := Lib.hid (B1.out.below g B1.out.lt)
          clear g h5
          have q0 : w6.cell? ⟨w2.heap.size, 0, none⟩ = some (.int .i64 (K : Int)) := B1.out.cell 0
          have q1 : w6.cell? ⟨w2.heap.size, 1, none⟩ = some (.int .i64 (n : Int)) := B1.out.cell 1
          go_wp2_with fail
          go_ret
          exact ⟨rfl, h6⟩
    | false =>
      have hem2 : ¬ s.toList = [] := fun e => by rw [e] at hem; cases hem
      have d2 := D2.out hem
      have d7 : ¬ ((bt.size : Int) ≤ (s.size : Int) + 9) := by simpa using d2
      have d8 : ¬ (bt.size ≤ s.size + 9) := by omega
      have hsb : s.size ≤ 300 := HS.out.2
      obtain ⟨hK1, hK3, hn, hKn⟩ := HA.out
      by_cases hK : K = 3
      · have hn0 : n = 0 := by omega
        subst hK hn0
        have e3 : (((3 : Nat) : Int) == 3) = true := rfl
        obtain ⟨r, hr⟩ : ∃ r, modV got 5000 = r := ⟨_, rfl⟩
        have hrb := modV_at got 5000 (by omega)
        rw [hr] at hrb
        have cL := pLeft 3 0 r
        rw [left_0 (ck0 (by omega) (by omega)), if_neg (by omega), if_pos rfl] at cL
        simp only at cL
        have cM := fun w => CMO.out 5000 w (by omega) (by omega)
        rw [hr] at cM
        have z3 : ((3 : Nat) : Int) = 3 := rfl
        have z0 : ((0 : Nat) : Int) = 0 := rfl
        rw [z3] at q0 B1 e3
        rw [z0] at q1 B1
        have SS : ∀ X, Hid (Below w4.heap.size w4 X) → (X.cell? ⟨w2.heap.size, 0, none⟩ = some (.int .i64 3) ∧ X.cell? ⟨w2.heap.size, 1, none⟩ = some (.int .i64 0)) := fun X hX => by
          have k := B1.out.below hX.out B1.out.lt
          exact ⟨k.cell 0, k.cell 1⟩
        have KM : Hid (∀ X, Hid (Below w4.heap.size w4 X) → Calls Tryd.prog 39 #[.int .i64 got, .int .i64 5000] X fun e w' => e = .returned (.int .i64 r) ∧ Hid (Below w4.heap.size w4 w') ∧ (w'.cell? ⟨w2.heap.size, 0, none⟩ = some (.int .i64 3) ∧ w'.cell? ⟨w2.heap.size, 1, none⟩ = some (.int .i64 0))) := hide fun X hX => (cM X).mono fun e w' ⟨he, hb⟩ => ⟨he, hb ▸ hX, SS _ (hb ▸ hX)⟩
        have KL : Hid (∀ X, Hid (Below w4.heap.size w4 X) → Calls Tryd.prog 37 #[.agg #[.int .i64 3, .int .i64 0], .int .i64 r] X fun e w' => e = .returned (.tuple #[.int .i64 (-1), .int .i64 0]) ∧ Hid (Below w4.heap.size w4 w') ∧ (w'.cell? ⟨w2.heap.size, 0, none⟩ = some (.int .i64 3) ∧ w'.cell? ⟨w2.heap.size, 1, none⟩ = some (.int .i64 0))) := hide fun X hX => (cL X).mono fun e w' ⟨he, hb⟩ => ⟨he, hide (hX.out.trans (hb.mono hX.out.size)), SS _ (hide (hX.out.trans (hb.mono hX.out.size)))⟩
        have HD0 : Hid (Below w4.heap.size w4 w4.drew) := hide (Below.refl _ _).drew
        have y0 : w4.drew.cell? ⟨w2.heap.size, 0, none⟩ = some (.int .i64 3) := q0
        have y1 : w4.drew.cell? ⟨w2.heap.size, 1, none⟩ = some (.int .i64 0) := q1
        clear SS cM cL hr z3 z0
        go_wp2_with fail
        go_region_held3 (fun w' => w'.cell? ⟨w2.heap.size, 0, none⟩ = some (.int .i64 3) ∧ w'.cell? ⟨w2.heap.size, 1, none⟩ = some (.int .i64 0)) (go_keep)
      (first
        | (go_at_call 39; (with_reducible refine (KM.out _ (by assumption)).mono ?_); rintro r' va ⟨rfl, hva, va0, va1⟩)
        | (go_at_call 37; (with_reducible refine (KL.out _ (by assumption)).mono ?_); rintro r' vb ⟨rfl, hvb, vb0, vb1⟩))
        rename World => wz
        have g := hvb.out
        clear KM KL HD0 y0 y1 va0 va1 vb0 vb1 hva hvb q0 q1
        go_wp2_with fail
        go_ret
        exact ⟨rfl, h4.trans (g.mono h4.size)⟩
      · have e3 : (((K : Nat) : Int) == 3) = false := by rw [beq_eq_false_iff_ne]; omega
        obtain ⟨m, hm⟩ : ∃ m, modV got ((n : Int) + 1) = m := ⟨_, rfl⟩
        have hmb := modV_at got ((n : Int) + 1) (by omega)
        rw [hm] at hmb
        have cM := fun w => CMO.out ((n : Int) + 1) w (by omega) (by omega)
        rw [hm] at cM
        have CM := Lib.hid cM
        have h0c : ckT (K : Int) (n : Int) = 0 := ck0 (by omega) (by omega)
        have c1 := pLeft K n m
        rw [left_0 h0c, if_neg (by omega), if_neg (by omega)] at c1
        simp only at c1
        have C1 := Lib.hid c1
        have HM := Lib.hid (And.intro h0c (And.intro hm hmb))
        clear cM c1 hm hmb h0c
        go_wp2_with fail
        (with_reducible refine (CM.out _).mono ?_); rintro e w5 ⟨rfl, rfl⟩
        have hmb := HM.out.2.2
        go_wp2_with fail
        clear q0 q1
        (with_reducible refine (C1.out _).mono ?_); rintro e w5 ⟨rfl, g⟩
        have h5 := h4.trans (g.mono h4.size)
        have B1 := Lib.hid (B1.out.below g B1.out.lt)
        clear g h4
        have q0 : w5.cell? ⟨w2.heap.size, 0, none⟩ = some (.int .i64 (K : Int)) := B1.out.cell 0
        have q1 : w5.cell? ⟨w2.heap.size, 1, none⟩ = some (.int .i64 (n : Int)) := B1.out.cell 1
        by_cases hm : m = n
        · have c2 := pLeft K n (m + 1)
          rw [left_0 HM.out.1, if_pos (.inr ⟨by omega, by omega⟩)] at c2
          simp only at c2
          have C2 := Lib.hid c2
          have d1 : (((n : Int) - m) == ((n : Int) - m)) = true := by simp
          have d2 : (((n : Int) - m) == 0) = true := by rw [beq_iff_eq]; omega
          have HN := Lib.hid hm
          clear c2 hm
          go_wp2_with fail
          clear q0 q1
          (with_reducible refine (C2.out _).mono ?_); rintro e w6 ⟨rfl, g⟩
          have h6 := h5.trans (g.mono h5.size)
          have B1 := Lib.hid (B1.out.below g B1.out.lt)
          clear g h5
          have q0 : w6.cell? ⟨w2.heap.size, 0, none⟩ = some (.int .i64 (K : Int)) := B1.out.cell 0
          have q1 : w6.cell? ⟨w2.heap.size, 1, none⟩ = some (.int .i64 (n : Int)) := B1.out.cell 1
          go_wp2_with fail
          go_ret
          exact ⟨rfl, h6⟩
        · have c2 := pLeft K n (m + 1)
          rw [left_0 HM.out.1, if_neg (by omega), if_neg (by omega)] at c2
          simp only at c2
          have C2 := Lib.hid c2
          have d1 : (((n : Int) - m) == ((n : Int) - m)) = true := by simp
          have d2 : (((n : Int) - m) == 0) = false := by rw [beq_eq_false_iff_ne]; omega
          have d5 : ¬ ((n : Int) ≤ m) := by omega
          have d6 : m < (n : Int) := by omega
          have d3 : decide ((0 : Int) < (n : Int) - m) = true := by simp; omega
          have d4 : (((n : Int) - (m + 1)) == ((n : Int) - m - 1)) = true := by rw [beq_iff_eq]; omega
          have HN := Lib.hid hm
          clear c2 hm
          go_wp2_with fail
          clear q0 q1
          (with_reducible refine (C2.out _).mono ?_); rintro e w6 ⟨rfl, g⟩
          have h6 := h5.trans (g.mono h5.size)
          have B1 := Lib.hid (B1.out.below g B1.out.lt)
          clear g h5
          have q0 : w6.cell? ⟨w2.heap.size, 0, none⟩ = some (.int .i64 (K : Int)) := B1.out.cell 0
          have q1 : w6.cell? ⟨w2.heap.size, 1, none⟩ = some (.int .i64 (n : Int)) := B1.out.cell 1
          go_wp2_with fail
          go_ret
          exact ⟨rfl, h6⟩
  · have hs1 : decide ((s.size : Int) ≤ 300) = false := by simp; omega
    have q0 : (w2.alloc (.cells #[.int .i64 (K : Int), .int .i64 (n : Int)] 48)).cell? ⟨w2.heap.size, 0, none⟩ = some (.int .i64 (K : Int)) := B1.out.cell 0
    have q1 : (w2.alloc (.cells #[.int .i64 (K : Int), .int .i64 (n : Int)] 48)).cell? ⟨w2.heap.size, 1, none⟩ = some (.int .i64 (n : Int)) := B1.out.cell 1
    rw [hW3] at q0 q1 hb3 B1
    clear hS
    have h30 := hb3
    obtain ⟨hK1, hK3, hn, hKn⟩ := HA.out
    by_cases hK : K = 3
    · have hn0 : n = 0 := by omega
      subst hK hn0
      have e3 : (((3 : Nat) : Int) == 3) = true := rfl
      obtain ⟨r, hr⟩ : ∃ r, modV got 5000 = r := ⟨_, rfl⟩
      have hrb := modV_at got 5000 (by omega)
      rw [hr] at hrb
      have cL := pLeft 3 0 r
      rw [left_0 (ck0 (by omega) (by omega)), if_neg (by omega), if_pos rfl] at cL
      simp only at cL
      have cM := fun w => CMO.out 5000 w (by omega) (by omega)
      rw [hr] at cM
      have z3 : ((3 : Nat) : Int) = 3 := rfl
      have z0 : ((0 : Nat) : Int) = 0 := rfl
      rw [z3] at q0 B1 e3
      rw [z0] at q1 B1
      rw [z3, z0] at hW3
      have SS : ∀ X, Hid (Below w30.heap.size w30 X) → (X.cell? ⟨w2.heap.size, 0, none⟩ = some (.int .i64 3) ∧ X.cell? ⟨w2.heap.size, 1, none⟩ = some (.int .i64 0)) := fun X hX => by
        have k := B1.out.below hX.out B1.out.lt
        exact ⟨k.cell 0, k.cell 1⟩
      have KM : Hid (∀ X, Hid (Below w30.heap.size w30 X) → Calls Tryd.prog 39 #[.int .i64 got, .int .i64 5000] X fun e w' => e = .returned (.int .i64 r) ∧ Hid (Below w30.heap.size w30 w') ∧ (w'.cell? ⟨w2.heap.size, 0, none⟩ = some (.int .i64 3) ∧ w'.cell? ⟨w2.heap.size, 1, none⟩ = some (.int .i64 0))) := hide fun X hX => (cM X).mono fun e w' ⟨he, hb⟩ => ⟨he, hb ▸ hX, SS _ (hb ▸ hX)⟩
      have KL : Hid (∀ X, Hid (Below w30.heap.size w30 X) → Calls Tryd.prog 37 #[.agg #[.int .i64 3, .int .i64 0], .int .i64 r] X fun e w' => e = .returned (.tuple #[.int .i64 (-1), .int .i64 0]) ∧ Hid (Below w30.heap.size w30 w') ∧ (w'.cell? ⟨w2.heap.size, 0, none⟩ = some (.int .i64 3) ∧ w'.cell? ⟨w2.heap.size, 1, none⟩ = some (.int .i64 0))) := hide fun X hX => (cL X).mono fun e w' ⟨he, hb⟩ => ⟨he, hide (hX.out.trans (hb.mono hX.out.size)), SS _ (hide (hX.out.trans (hb.mono hX.out.size)))⟩
      have HD0 : Hid (Below w30.heap.size w30 w30.drew) := hide (Below.refl _ _).drew
      have y0 : w30.drew.cell? ⟨w2.heap.size, 0, none⟩ = some (.int .i64 3) := q0
      have y1 : w30.drew.cell? ⟨w2.heap.size, 1, none⟩ = some (.int .i64 0) := q1
      clear SS cM cL hr z3 z0
      subst hW3
      go_wp2_with fail
      generalize hW3 : w2.alloc (.cells #[.int .i64 3, .int .i64 0] 48) = w30 at *
      clear hW3
      go_region_held3 (fun w' => w'.cell? ⟨w2.heap.size, 0, none⟩ = some (.int .i64 3) ∧ w'.cell? ⟨w2.heap.size, 1, none⟩ = some (.int .i64 0)) (go_keep)
      (first
        | (go_at_call 39; (with_reducible refine (KM.out _ (by assumption)).mono ?_); rintro r' va ⟨rfl, hva, va0, va1⟩)
        | (go_at_call 37; (with_reducible refine (KL.out _ (by assumption)).mono ?_); rintro r' vb ⟨rfl, hvb, vb0, vb1⟩))
      rename World => wz
      have g := hvb.out
      clear KM KL HD0 y0 y1 va0 va1 vb0 vb1 hva hvb q0 q1
      go_wp2_with fail
      go_ret
      exact ⟨rfl, h30.trans (g.mono h30.size)⟩
    · have e3 : (((K : Nat) : Int) == 3) = false := by rw [beq_eq_false_iff_ne]; omega
      obtain ⟨m, hm⟩ : ∃ m, modV got ((n : Int) + 1) = m := ⟨_, rfl⟩
      have hmb := modV_at got ((n : Int) + 1) (by omega)
      rw [hm] at hmb
      have cM := fun w => CMO.out ((n : Int) + 1) w (by omega) (by omega)
      rw [hm] at cM
      have CM := Lib.hid cM
      have h0c : ckT (K : Int) (n : Int) = 0 := ck0 (by omega) (by omega)
      have c1 := pLeft K n m
      rw [left_0 h0c, if_neg (by omega), if_neg (by omega)] at c1
      simp only at c1
      have C1 := Lib.hid c1
      have HM := Lib.hid (And.intro h0c (And.intro hm hmb))
      clear cM c1 hm hmb h0c
      go_wp2_with fail
      (with_reducible refine (CM.out _).mono ?_); rintro e w31 ⟨rfl, rfl⟩
      have hmb := HM.out.2.2
      go_wp2_with fail
      clear q0 q1
      (with_reducible refine (C1.out _).mono ?_); rintro e w31 ⟨rfl, g⟩
      have h31 := h30.trans (g.mono h30.size)
      have B1 := Lib.hid (B1.out.below g B1.out.lt)
      clear g h30
      have q0 : w31.cell? ⟨w2.heap.size, 0, none⟩ = some (.int .i64 (K : Int)) := B1.out.cell 0
      have q1 : w31.cell? ⟨w2.heap.size, 1, none⟩ = some (.int .i64 (n : Int)) := B1.out.cell 1
      by_cases hm : m = n
      · have c2 := pLeft K n (m + 1)
        rw [left_0 HM.out.1, if_pos (.inr ⟨by omega, by omega⟩)] at c2
        simp only at c2
        have C2 := Lib.hid c2
        have d1 : (((n : Int) - m) == ((n : Int) - m)) = true := by simp
        have d2 : (((n : Int) - m) == 0) = true := by rw [beq_iff_eq]; omega
        have HN := Lib.hid hm
        clear c2 hm
        go_wp2_with fail
        clear q0 q1
        (with_reducible refine (C2.out _).mono ?_); rintro e w32 ⟨rfl, g⟩
        have h32 := h31.trans (g.mono h31.size)
        have B1 := Lib.hid (B1.out.below g B1.out.lt)
        clear g h31
        have q0 : w32.cell? ⟨w2.heap.size, 0, none⟩ = some (.int .i64 (K : Int)) := B1.out.cell 0
        have q1 : w32.cell? ⟨w2.heap.size, 1, none⟩ = some (.int .i64 (n : Int)) := B1.out.cell 1
        go_wp2_with fail
        go_ret
        exact ⟨rfl, h32⟩
      · have c2 := pLeft K n (m + 1)
        rw [left_0 HM.out.1, if_neg (by omega), if_neg (by omega)] at c2
        simp only at c2
        have C2 := Lib.hid c2
        have d1 : (((n : Int) - m) == ((n : Int) - m)) = true := by simp
        have d2 : (((n : Int) - m) == 0) = false := by rw [beq_eq_false_iff_ne]; omega
        have d5 : ¬ ((n : Int) ≤ m) := by omega
        have d6 : m < (n : Int) := by omega
        have d3 : decide ((0 : Int) < (n : Int) - m) = true := by simp; omega
        have d4 : (((n : Int) - (m + 1)) == ((n : Int) - m - 1)) = true := by rw [beq_iff_eq]; omega
        have HN := Lib.hid hm
        clear c2 hm
        go_wp2_with fail
        clear q0 q1
        (with_reducible refine (C2.out _).mono ?_); rintro e w32 ⟨rfl, g⟩
        have h32 := h31.trans (g.mono h31.size)
        have B1 := Lib.hid (B1.out.below g B1.out.lt)
        clear g h31
        have q0 : w32.cell? ⟨w2.heap.size, 0, none⟩ = some (.int .i64 (K : Int)) := B1.out.cell 0
        have q1 : w32.cell? ⟨w2.heap.size, 1, none⟩ = some (.int .i64 (n : Int)) := B1.out.cell 1
        go_wp2_with fail
        go_ret
        exact ⟨rfl, h32⟩
end Go.Proofs.YtpdohlnobbimaaaDoor
