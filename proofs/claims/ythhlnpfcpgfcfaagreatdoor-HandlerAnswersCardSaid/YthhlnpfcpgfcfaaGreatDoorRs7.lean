/-
  The reader of responses: the line of the length, and the end of a head.
-/
import Derived.Test.YthhlnpfcpgfcfaaGreatDoorRs6
import Derived.Lib.AtoiErrMem
namespace Go.Proofs.YthhlnpfcpgfcfaaGreatDoor
open Go.RowKit

theorem decFrom_app (l m : List UInt8) : ∀ acc, Lib.decFrom acc (l ++ m) = (Lib.decFrom acc l).bind fun a => Lib.decFrom a m := by
  induction l with
  | nil => intro acc; rfl
  | cons b l ih =>
    intro acc
    rw [List.cons_append, Lib.decFrom, Lib.decFrom]
    cases Lib.digitVal b with
    | none => rfl
    | some d => exact ih _
theorem decFrom_dec (n : Nat) : Lib.decFrom 0 (Lib.decDigits n) = some n := by
  have hd : ∀ d, d < 10 → Lib.digitVal (UInt8.ofNat (48 + d)) = some d := by decide
  induction n using Nat.strongRecOn with
  | ind n ih =>
    rw [Lib.decDigits]
    split
    · rename_i h
      rw [Lib.decFrom, hd n h]
      simp [Lib.decFrom]
    · rename_i h
      rw [decFrom_app, ih (n / 10) (by omega)]
      simp only [Option.bind_some]
      rw [Lib.decFrom, hd (n % 10) (by omega)]
      simp only [Lib.decFrom]
      congr 1; omega
theorem dec_ne (n : Nat) : Lib.decDigits n ≠ [] := by
  rw [Lib.decDigits]; split <;> simp
theorem atoi_dec (n : Nat) (hn : n ≤ 9999) : Lib.atoiAll (Lib.decDigits n) = .ok (n : Int) := by
  have hl := dec_len n hn
  rw [Lib.atoiAll_short _ (by omega)]
  have hb := dec_bytes n
  have hf := decFrom_dec n
  cases hd : Lib.decDigits n with
  | nil => exact absurd hd (dec_ne n)
  | cons b r =>
    have h1 := hb b (by rw [hd]; simp)
    have e45 : (b == 45) = false := by rw [beq_eq_false_iff_ne]; rintro rfl; simp at h1
    have e43 : (b == 43) = false := by rw [beq_eq_false_iff_ne]; rintro rfl; simp at h1
    rw [hd] at hf
    have : Lib.atoi (b :: r) = some (n : Int) := by
      simp only [Lib.atoi, e45, e43, Lib.decNat, List.isEmpty_cons]
      rw [hf]; rfl
    rw [this]; rfl
theorem atoi_rng {l : List UInt8} {z : Int} (h : Lib.atoiAll l = .ok z) : -9223372036854775808 ≤ z ∧ z ≤ 9223372036854775807 := by
  unfold Lib.atoiAll at h
  split at h
  · cases h
  · simp only at h
    split at h
    · cases h
    · cases h
    · split at h
      · cases h
      · split at h
        · cases h
        · injection h with h
          subst h
          split <;> omega
/-- Content-Length, a colon, a space -/
def lenN : List UInt8 := [67, 111, 110, 116, 101, 110, 116, 45, 76, 101, 110, 103, 116, 104, 58, 32]
theorem lenR_is (n : Nat) : lenR n = lenN ++ Lib.decDigits n := rfl
theorem len_cases (l : List UInt8) : (Lib.hasPrefix l lenN = false ∧ lenP l = none ∧ Lib.trimPrefix l lenN = l) ∨ ∃ t, l = lenN ++ t ∧ Lib.hasPrefix l lenN = true ∧ Lib.trimPrefix l lenN = t := by
  cases h : Lib.hasPrefix l lenN with
  | false =>
    refine .inl ⟨rfl, ?_, by unfold Lib.trimPrefix; rw [h]; rfl⟩
    cases hl : lenP l with
    | none => rfl
    | some n =>
      obtain ⟨e, _⟩ := lenP_some hl
      have : Lib.hasPrefix l lenN = true := by
        unfold Lib.hasPrefix
        rw [e, lenR_is]
        exact List.isPrefixOf_iff_prefix.2 ⟨_, rfl⟩
      rw [h] at this; cases this
  | true =>
    obtain ⟨t, ht⟩ := List.isPrefixOf_iff_prefix.1 h
    refine .inr ⟨t, ht.symm, rfl, ?_⟩
    unfold Lib.trimPrefix
    rw [h, if_pos rfl, ← ht, List.drop_left]
theorem len_yes {t : List UInt8} {z : Int} (h : Lib.itoa z = t) (h0 : 0 ≤ z) (h1 : z ≤ 4096) : lenP (lenN ++ t) = some z.toNat := by
  have : t = Lib.decDigits z.toNat := by rw [← h]; unfold Lib.itoa; rw [if_neg (by omega)]
  rw [this, ← lenR_is]
  exact lenP_len _ (by omega)
theorem len_no {t : List UInt8} (h : ∀ n : Nat, n ≤ 4096 → Lib.atoiAll t = .ok (n : Int) → Lib.itoa (n : Int) ≠ t) : lenP (lenN ++ t) = none := by
  cases hl : lenP (lenN ++ t) with
  | none => rfl
  | some n =>
    obtain ⟨e, hn⟩ := lenP_some hl
    rw [lenR_is] at e
    have e := List.append_cancel_left e
    subst e
    refine absurd ?_ (h n hn (atoi_dec n (by omega)))
    unfold Lib.itoa
    rw [if_neg (by omega), Int.toNat_natCast]
/-- the library's two errors -/
structure Errs (w : World) : Prop where
  sx : ∃ te pe, w.cell? ⟨5, 0, none⟩ = some (.iface te pe)
  rg : ∃ te pe, w.cell? ⟨6, 0, none⟩ = some (.iface te pe)
theorem Errs.below {w w' : World} (h : Errs w) (hb : Below w.heap.size w w') : Errs w' := by
  obtain ⟨⟨a, b, h1⟩, ⟨c, d, h2⟩⟩ := h
  exact ⟨⟨a, b, (hb.cell (p := ⟨_, 0, none⟩) (World.block_lt_of_cell? _ _ h1)).trans h1⟩, ⟨c, d, (hb.cell (p := ⟨_, 0, none⟩) (World.block_lt_of_cell? _ _ h2)).trans h2⟩⟩
def AtoiPost (t : List UInt8) (w : World) (e : Ending) (w' : World) : Prop :=
  ((∃ z : Int, e = .returned (.tuple #[.int .i64 z, .nilIface]) ∧ Lib.atoiAll t = .ok z) ∨ (∃ (z : Int) (N : Nat), e = .returned (.tuple #[.int .i64 z, .iface 174 (.pointer (some ⟨N, 0, none⟩))]) ∧ ∀ v, Lib.atoiAll t ≠ .ok v)) ∧ Below w.heap.size w w'
theorem Atoi_any (t : List UInt8) (ht : t.length ≤ 1000000) (w : World) (hE : Errs w) : Calls Tryz.prog 88 #[.string (bs t)] w (AtoiPost t w) := by
  have hz := bs_size t
  obtain ⟨⟨a, b, h1⟩, ⟨c, d, h2⟩⟩ := hE
  cases h : Lib.atoiAll t with
  | ok v =>
    refine (Tryz.strconv_Atoi_ok (bs t) (by omega) v h w).mono fun e w' ⟨he, hw⟩ => ⟨.inl ⟨v, he, h⟩, ?_⟩
    rcases hw with rfl | ⟨u, rfl⟩
    · exact Below.refl _ _
    · exact ⟨rfl, rfl, rfl, by rw [Lib.bytesWorld_size]; omega, fun j hj => Lib.bytesWorld_at_old w _ u j hj⟩
  | «syntax» =>
    exact (Tryz.strconv_Atoi_syntax (bs t) (by omega) h _ w h1 (.inr ⟨_, _, rfl⟩)).mono fun e w' ⟨N, he, _, _, hb⟩ => ⟨.inr ⟨_, N, he, fun v hv => by rw [h] at hv; cases hv⟩, hb⟩
  | range =>
    exact (Tryz.strconv_Atoi_range (bs t) (by omega) h _ w h2 (.inr ⟨_, _, rfl⟩)).mono fun e w' ⟨N, he, _, _, hb⟩ => ⟨.inr ⟨_, N, he, fun v hv => by rw [h] at hv; cases hv⟩, hb⟩
theorem Itoa_int (z : Int) (h : -9223372036854775808 ≤ z ∧ z ≤ 9223372036854775807) (w : World) (ht : Tabs w) :
    Calls Tryz.prog 33 #[.int .i64 z] w fun e w' => e = .returned (.string (bs (Lib.itoa z))) ∧ Below w.heap.size w w' :=
  (Tryz.strconv_Itoa z h.1 h.2 w ht.pow).mono fun e w' ⟨he, k, os, hw⟩ => ⟨he, by rw [hw]; exact Lib.below_grow _ _ (Nat.le_refl _) k os⟩
theorem CutPrefix_len (l : List UInt8) (w : World) :
    Calls Tryz.prog 87 #[.string (bs l), .string ⟨#[67, 111, 110, 116, 101, 110, 116, 45, 76, 101, 110, 103, 116, 104, 58, 32]⟩] w fun e w' => e = .returned (.tuple #[.string (bs (Lib.trimPrefix l lenN)), .bool (Lib.hasPrefix l lenN)]) ∧ w' = w :=
  Tryz.strings_CutPrefix (bs l) ⟨#[67, 111, 110, 116, 101, 110, 116, 45, 76, 101, 110, 103, 116, 104, 58, 32]⟩ w
set_option maxRecDepth 100000 in
set_option maxHeartbeats 8000000 in
theorem pBodyR (s : List UInt8) (a : Nat) (code : Int) (v : Value) (body : ByteArray) (close head : Bool) (g : Nat) (w W0 : World) (hs : s.length ≤ 1000000) (ha : a ≤ s.length) (hB : Blk w g 101 (rC s a code v body close head)) (ht : TabR W0) (hm : MaxL W0) (hE : Errs W0) (h0 : Below W0.heap.size W0 w) :
    Calls Tryz.prog 61 #[.pointer (some ⟨g, 0, none⟩)] w (match lineP (s.drop a) with
      | none => RdPost g (rC s a code v body close head) (.tuple #[.int .i64 0, .bool false]) w
      | some x => match lenP x.1 with
        | none => RdPost g (rC s a code v body close head) (.tuple #[.int .i64 0, .bool false]) w
        | some n => RdPost g (rC s (a + x.1.length + 2) code v body close head) (.tuple #[.int .i64 (n : Int), .bool true]) w) := by
  have cN := pNext s a g w hs ha (hB.cell 0) (hB.cell 1) (hm.below h0)
  have HB := Lib.hid hB
  have HT := Lib.hid ht
  have HE := Lib.hid hE
  have H0 := Lib.hid h0
  have CN := Lib.hid cN
  clear hB ht h0 cN hm hE
  rcases lineP_cases (s.drop a) with ⟨h1, h2⟩ | ⟨l, r, h1, h2, h3⟩
  · rw [h1] at CN ⊢
    simp only at CN ⊢
    clear h1 h2
    have CC := Lib.hid (fun X => CutPrefix_len [] X)
    have ec : Lib.trimPrefix [] lenN = [] := by decide
    have ec2 : Lib.hasPrefix [] lenN = false := by decide
    rw [ec, ec2, show bs [] = (⟨#[]⟩ : ByteArray) from rfl] at CC
    clear ec ec2
    go_enter Tryz.func61, Tryz.ntmps61
    go_wp2_with fail
    (with_reducible refine (CN.out).mono ?_); rintro e w1 ⟨rfl, g1⟩
    have HG1 := Lib.hid (And.intro (HB.out.below g1 HB.out.lt) (Lib.grownBy_below (World.grownBy.refl w (some g)) g1))
    have CA := Lib.hid (Atoi_any [] (by simp) w1 (HE.out.below (H0.out.trans (g1.mono H0.out.size))))
    rw [show bs [] = (⟨#[]⟩ : ByteArray) from rfl] at CA
    clear g1 CN
    go_wp2_with fail
    (with_reducible refine (CC.out _).mono ?_); rintro e w2 ⟨rfl, rfl⟩
    go_wp2_with fail
    (with_reducible refine (CA.out).mono ?_); rintro e w3 ⟨(⟨z, rfl, hz⟩ | ⟨z, N, rfl, hz⟩), g3⟩
    · cases hz
    · clear hz CC CA
      have K3 := Lib.hid (And.intro (HG1.out.1.below g3 HG1.out.1.lt) (Lib.grownBy_below HG1.out.2 g3))
      clear g3
      go_wp2_with fail
      go_ret2
      exact ⟨rfl, K3.out.1, K3.out.2⟩
  · rw [h1] at CN ⊢
    have hlen : a + l.length + 2 ≤ s.length := by
      have := congrArg List.length h3
      rw [List.length_drop] at this
      simp only [List.length_append, List.length_cons] at this
      omega
    simp only at CN ⊢
    clear h1 h2 h3
    have CC := Lib.hid (fun X => CutPrefix_len l X)
    rcases len_cases l with ⟨p1, p2, p3⟩ | ⟨t, p1, p2, p3⟩
    · rw [p2]
      simp only
      rw [p1, p3] at CC
      clear p1 p2 p3
      go_enter Tryz.func61, Tryz.ntmps61
      go_wp2_with fail
      (with_reducible refine (CN.out).mono ?_); rintro e w1 ⟨rfl, g1⟩
      have HG1 := Lib.hid (And.intro (HB.out.below g1 HB.out.lt) (Lib.grownBy_below (World.grownBy.refl w (some g)) g1))
      have CA := Lib.hid (Atoi_any l (by omega) w1 (HE.out.below (H0.out.trans (g1.mono H0.out.size))))
      clear g1 CN
      go_wp2_with fail
      (with_reducible refine (CC.out _).mono ?_); rintro e w2 ⟨rfl, rfl⟩
      go_wp2_with fail
      (with_reducible refine (CA.out).mono ?_); rintro e w3 ⟨(⟨z, rfl, hz⟩ | ⟨z, N, rfl, hz⟩), g3⟩
      all_goals (
        clear hz CC CA
        have K3 := Lib.hid (And.intro (HG1.out.1.below g3 HG1.out.1.lt) (Lib.grownBy_below HG1.out.2 g3))
        clear g3
        go_wp2_with fail
        go_ret2
        exact ⟨rfl, K3.out.1, K3.out.2⟩)
    · rw [p2, p3] at CC
      have hLP : lenP l = lenP (lenN ++ t) := by rw [p1]
      have htl : t.length ≤ l.length := by rw [p1]; simp
      rw [hLP]
      obtain ⟨PP, hPP⟩ : ∃ PP : Ending → World → Prop, (match lenP (lenN ++ t) with
        | none => RdPost g (rC s a code v body close head) (.tuple #[.int .i64 0, .bool false]) w
        | some n => RdPost g (rC s (a + l.length + 2) code v body close head) (.tuple #[.int .i64 (n : Int), .bool true]) w) = PP := ⟨_, rfl⟩
      rw [hPP]
      have HPP := Lib.hid hPP
      clear p1 p2 p3 hPP hLP
      go_enter Tryz.func61, Tryz.ntmps61
      go_wp2_with fail
      (with_reducible refine (CN.out).mono ?_); rintro e w1 ⟨rfl, g1⟩
      have HG1 := Lib.hid (And.intro (HB.out.below g1 HB.out.lt) (Lib.grownBy_below (World.grownBy.refl w (some g)) g1))
      have H1 := Lib.hid (H0.out.trans (g1.mono H0.out.size))
      have CA := Lib.hid (Atoi_any t (by omega) w1 (HE.out.below H1.out))
      clear g1 CN
      go_wp2_with fail
      (with_reducible refine (CC.out _).mono ?_); rintro e w2 ⟨rfl, rfl⟩
      go_wp2_with fail
      (with_reducible refine (CA.out).mono ?_); rintro e w3 ⟨(⟨z, rfl, hz⟩ | ⟨z, N, rfl, hz⟩), g3⟩
      · have K3 := Lib.hid (And.intro (HG1.out.1.below g3 HG1.out.1.lt) (Lib.grownBy_below HG1.out.2 g3))
        have CI := Lib.hid (Itoa_int z (atoi_rng hz) w3 (HT.out.tabs.below (H1.out.trans (g3.mono H1.out.size))))
        have HZ := Lib.hid hz
        clear hz CC CA g3
        by_cases hi : Lib.itoa z = t
        · have e1 := eq_texts hi
          by_cases hz0 : z < 0
          · have hno := len_no (t := t) (fun n hn ha => by rw [HZ.out] at ha; injection ha with ha; omega)
            rw [hno] at HPP
            simp only at HPP
            have d1 : decide (z < 0) = true := by simpa using hz0
            clear hi hz0 hno
            go_wp2_with fail
            (with_reducible refine (CI.out).mono ?_); rintro e w4 ⟨rfl, g4⟩
            have K4 := Lib.hid (And.intro (K3.out.1.below g4 K3.out.1.lt) (Lib.grownBy_below K3.out.2 g4))
            clear g4
            go_wp2_with fail
            try go_ret2
            rw [← HPP.out]
            exact ⟨rfl, K4.out.1, K4.out.2⟩
          · have d1 : decide (z < 0) = false := by simpa using hz0
            by_cases hz1 : 4096 < z
            · have hno := len_no (t := t) (fun n hn ha => by rw [HZ.out] at ha; injection ha with ha; omega)
              rw [hno] at HPP
              simp only at HPP
              have d2 : decide (4096 < z) = true := by simpa using hz1
              clear hi hz0 hz1 hno
              go_wp2_with fail
              (with_reducible refine (CI.out).mono ?_); rintro e w4 ⟨rfl, g4⟩
              have K4 := Lib.hid (And.intro (K3.out.1.below g4 K3.out.1.lt) (Lib.grownBy_below K3.out.2 g4))
              clear g4
              go_wp2_with fail
              try go_ret2
              rw [← HPP.out]
              exact ⟨rfl, K4.out.1, K4.out.2⟩
            · have d2 : decide (4096 < z) = false := by simpa using hz1
              have hyes := len_yes hi (by omega) (by omega)
              obtain ⟨n, rfl⟩ := Int.eq_ofNat_of_zero_le (show 0 ≤ z by omega)
              rw [Int.toNat_natCast] at hyes
              rw [hyes] at HPP
              simp only at HPP
              clear hi hz0 hz1 hyes
              go_wp2_with fail
              (with_reducible refine (CI.out).mono ?_); rintro e w4 ⟨rfl, g4⟩
              have K4 := Lib.hid (And.intro (K3.out.1.below g4 K3.out.1.lt) (Lib.grownBy_below K3.out.2 g4))
              have CP := Lib.hid (pPass s a code v body close head l g _ hs hlen K4.out.1)
              clear g4
              go_wp2_with fail
              (with_reducible refine (CP.out).mono ?_); rintro e w7 ⟨rfl, k7, g7⟩
              go_wp2_with fail
              try go_ret2
              rw [← HPP.out]
              exact ⟨rfl, k7, Lib.grownBy_trans K4.out.2 g7⟩
        · have e1 := ne_texts hi
          have hno := len_no (t := t) (fun n hn ha => by rw [HZ.out] at ha; injection ha with ha; rw [← ha]; exact hi)
          rw [hno] at HPP
          simp only at HPP
          clear hi hno
          go_wp2_with fail
          (with_reducible refine (CI.out).mono ?_); rintro e w4 ⟨rfl, g4⟩
          have K4 := Lib.hid (And.intro (K3.out.1.below g4 K3.out.1.lt) (Lib.grownBy_below K3.out.2 g4))
          clear g4
          go_wp2_with fail
          try go_ret2
          rw [← HPP.out]
          exact ⟨rfl, K4.out.1, K4.out.2⟩
      · have K3 := Lib.hid (And.intro (HG1.out.1.below g3 HG1.out.1.lt) (Lib.grownBy_below HG1.out.2 g3))
        have hno := len_no (t := t) (fun n hn ha => absurd ha (hz _))
        rw [hno] at HPP
        simp only at HPP
        clear hz CC CA g3 hno
        go_wp2_with fail
        try go_ret2
        rw [← HPP.out]
        exact ⟨rfl, K3.out.1, K3.out.2⟩
end Go.Proofs.YthhlnpfcpgfcfaaGreatDoor
