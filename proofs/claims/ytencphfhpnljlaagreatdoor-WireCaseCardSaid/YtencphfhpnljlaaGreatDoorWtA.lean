/-
  field.Text of a list that is wrong; wire.Text.
  The reference of chapters 8 and 6: what is written.
  The reference of chapters 8 and 6: Text.
  The reference of chapter 11: Text. Printed by genwt4.py.
  waypostlaw11: light, of a parser that holds a line and fields alone.
  Written by merge.py.
-/
import Derived.Test.YtencphfhpnljlaaGreatDoorWi5
import Derived.Test.YtencphfhpnljlaaGreatDoorRq7
import Derived.Test.YtencphfhpnljlaaGreatDoorWe2
namespace Go.Proofs.YtencphfhpnljlaaGreatDoor
open Go.RowKit


set_option maxRecDepth 100000 in
set_option maxHeartbeats 4000000 in
theorem pTextE (A : Option Addr) (n c : Nat) (l : List Fld) (w : World) (hr : Reads w w.heap.size 2 A n (fldsC l)) (hn : n ≤ 100000) (hl : fldsOk l) (he : askL l [] ≠ 0) :
    Calls Tryz.prog 23 #[.slice A n c] w fun e w' => e = .returned (.tuple #[.string ⟨#[]⟩, .int .i64 (askL l [] : Nat)]) ∧ Below w.heap.size w w' := by
  obtain rfl := hr.flen
  have cA := pask A none l.length c 0 0 l [] w hr Reads.none_ hn (by omega) hl (by simp)
  rw [if_neg he] at cA
  unfold nilAsk at cA
  obtain ⟨E, hE⟩ : ∃ E, askL l [] = E := ⟨_, rfl⟩
  rw [hE] at cA he ⊢
  have CA := Lib.hid cA
  have e1 : ((E : Int) != 0) = true := by rw [bne_iff_ne]; omega
  clear cA he hE hr hl
  go_enter Tryz.func23, Tryz.ntmps23
  go_wp2_with fail
  (with_reducible refine (CA.out).mono ?_); rintro e w1 ⟨rfl, g1⟩
  have G := Lib.hid (g1.alloc g1.size (.cells #[.slice none 0 0, .slice none 0 0] 82))
  clear g1
  go_wp2_with fail
  go_ret2
  exact ⟨rfl, G.out⟩
theorem fldsS_of {l : List Fld} (h : ∀ f ∈ l, oneL f = 0) : fldsS l := fun f hf => by have := oneL_len (h f hf); omega
theorem bytes_len {K n : Int} {b : List UInt8} (h : b.length ≤ 1000000) : (bytesT K n b).1.length ≤ 2000000 := by
  unfold bytesT
  split
  · simp
  · split
    · simp
    · split
      · simp
      · split
        · simp only; omega
        · rename_i h2 _ _
          have hx := (hexDigits_len b.length (by omega)).2
          simp only [List.length_append]
          split
          · simp
          · simp only [List.length_append, List.length_cons, List.length_nil]; omega
theorem text_app (x l b : List UInt8) : bs x ++ ⟨#[13, 10]⟩ ++ bs l ++ ⟨#[13, 10]⟩ ++ bs b = bs (x ++ [13, 10] ++ l ++ [13, 10] ++ b) := by
  apply ba_ext
  rw [append_toList, append_toList, append_toList, append_toList, bs_list, bs_list, bs_list, bs_list]
set_option maxRecDepth 100000 in
set_option maxHeartbeats 8000000 in
theorem pTextW (m t body : List UInt8) (A : Option Addr) (n c : Nat) (l : List Fld) (w : World) (hm : m.length ≤ 1000000) (ht : t.length ≤ 1000000) (hb : body.length ≤ 1000000) (hr : Reads w w.heap.size 2 A n (fldsC l)) (hn : n ≤ 100000) (hl : fldsOk l) (hT : Tabs w) :
    Calls Tryz.prog 8 #[.agg #[.string (bs m), .string (bs t)], .slice A n c, .string (bs body)] w fun e w' => e = .returned (.tuple #[.string (bs (textP m t l body).1), .int .i64 ((textP m t l body).2 : Nat)]) ∧ Below w.heap.size w w' := by
  obtain rfl := hr.flen
  have b0 : Below w.heap.size w (w.alloc (.cells #[.string (bs m), .string (bs t)] 24)) := (Below.refl _ _).alloc (Nat.le_refl _) _
  have k0 := Blk.new w 24 #[.string (bs m), .string (bs t)]
  have hdef : textP m t l body = if (reqT m t).2 ≠ 0 then ([], (reqT m t).2) else if askL l [] ≠ 0 then ([], askL l []) else if (ofT l).2.2 ≠ 0 then ([], 3)
    else if (bytesT ((ofT l).1 : Nat) ((ofT l).2.1 : Nat) body).2 ≠ 0 then ([], 3)
    else ((reqT m t).1 ++ [13, 10] ++ textL l ++ [13, 10] ++ (bytesT ((ofT l).1 : Nat) ((ofT l).2.1 : Nat) body).1, 0) := rfl
  have cQ := fun X => pTextQ m t X hm ht
  have cE := fun X (hX : Below w.heap.size w X) => pTextE A l.length c l X ((hr.below hX).more hX.size) hn hl
  have cX := fun X (hX : Below w.heap.size w X) => pText A l.length c l X ((hr.below hX).more hX.size) hn hl
  have cO := fun X (hX : Below w.heap.size w X) (h1 : l.length ≤ 32) (h2 : ∀ f ∈ l, oneL f = 0) => pOf A l.length c l X ((hr.below hX).more hX.size) (by omega) (fldsS_of h2)
  have cB := fun (K N : Int) X (hX : Below w.heap.size w X) => pBytes K N (bs body) (by rw [bs_size]; omega) X (hT.below hX)
  have hrl : (reqT m t).1.length ≤ 3000000 := by
    unfold reqT; split
    · simp
    · split
      · simp
      · split
        · simp
        · simp only [List.length_append, List.length_cons, List.length_nil]; show _ + 1 + _ + 1 + 8 ≤ _; omega
  have hbl := fun K N => bytes_len (K := K) (n := N) hb
  obtain ⟨⟨q, E⟩, hq⟩ : ∃ x, reqT m t = x := ⟨_, rfl⟩
  rw [hq] at cQ hdef hrl
  simp only at cQ hdef hrl
  have CQ := Lib.hid cQ
  have HD := Lib.hid hdef
  have B0 := Lib.hid b0
  have c0 : (w.alloc (.cells #[.string (bs m), .string (bs t)] 24)).cell? ⟨w.heap.size, 0, none⟩ = some (.string (bs m)) := k0.cell 0
  have c1 : (w.alloc (.cells #[.string (bs m), .string (bs t)] 24)).cell? ⟨w.heap.size, 1, none⟩ = some (.string (bs t)) := k0.cell 1
  clear k0 b0 hdef cQ hq
  by_cases hE : E = 0
  · subst hE
    have HD1 := Lib.hid (HD.out.trans (if_neg (by simp)))
    have e1 : (((0 : Nat) : Int) != 0) = false := rfl
    obtain ⟨F, hF⟩ : ∃ F, askL l [] = F := ⟨_, rfl⟩
    by_cases hF0 : F = 0
    · have hask : askL l [] = 0 := hF.trans hF0
      obtain ⟨h32, hall⟩ := askL_fields hask
      have HD2 := Lib.hid (HD1.out.trans (if_neg (by omega)))
      have CX := Lib.hid (fun X hX => cX X hX hask)
      have tl := textL_len l hall
      have cO2 := fun X hX => cO X hX h32 hall
      obtain ⟨⟨K, N, S⟩, hK⟩ : ∃ x, ofT l = x := ⟨_, rfl⟩
      rw [hK] at cO2 HD2
      simp only at HD2
      unfold OfPost at cO2
      simp only at cO2
      have CO := Lib.hid cO2
      obtain ⟨L, hL⟩ : ∃ L, textL l = L := ⟨_, rfl⟩
      rw [hL] at CX HD2 tl
      clear hF hF0 hask h32 hall cE cX cO cO2 hK hL HD HD1 hr hl hT
      by_cases hS : S = 0
      · subst hS
        have HD3 := Lib.hid (HD2.out.trans (if_neg (by simp)))
        have cB2 := cB (K : Int) (N : Int)
        rw [bs_list] at cB2
        have hbl2 := hbl (K : Int) (N : Int)
        obtain ⟨⟨y, Z⟩, hy⟩ : ∃ x, bytesT (K : Int) (N : Int) body = x := ⟨_, rfl⟩
        rw [hy] at cB2 HD3 hbl2
        simp only at cB2 HD3 hbl2
        have CB := Lib.hid cB2
        clear hy cB cB2 HD2 hbl
        by_cases hZ : Z = 0
        · subst hZ
          have HD4 := Lib.hid (HD3.out.trans (if_neg (by simp)))
          have zq := bs_size q
          have zl := bs_size L
          have zy := bs_size y
          have happ := text_app q L y
          have HA := Lib.hid happ
          have s1 : (bs q).size ≤ 3000000 := by omega
          have s2 : (bs L).size ≤ 60000000 := by omega
          have s3 : (bs y).size ≤ 2000000 := by omega
          clear happ HD3 zq zl zy hrl tl hbl2 hm ht hb hn
          go_enter Tryz.func8, Tryz.ntmps8
          go_wp2_with fail
          (with_reducible refine (CQ.out _).mono ?_); rintro e w1 ⟨rfl, g1⟩
          have G := Lib.hid (B0.out.trans (g1.mono B0.out.size))
          clear g1
          go_wp2_with fail
          (with_reducible refine (CX.out _ G.out).mono ?_); rintro e w2 ⟨rfl, g2⟩
          have G := Lib.hid (G.out.trans (g2.mono G.out.size))
          clear g2
          go_wp2_with fail
          (with_reducible refine (CO.out _ G.out).mono ?_); rintro e w3 ⟨rfl, g3⟩
          have G := Lib.hid ((G.out.trans (g3.mono G.out.size)).alloc (G.out.trans (g3.mono G.out.size)).size (.cells #[.int .i64 (K : Int), .int .i64 (N : Int)] 63))
          clear g3
          go_wp2_with fail
          (with_reducible refine (CB.out _ G.out).mono ?_); rintro e w4 ⟨rfl, g4⟩
          have G := Lib.hid (G.out.trans (g4.mono G.out.size))
          clear g4
          go_wp2_with fail
          go_ret2
          exact ⟨by rw [HD4.out, ← HA.out]; rfl, G.out⟩
        · have HD4 := Lib.hid (HD3.out.trans (if_pos hZ))
          have e2 : ((Z : Int) != 0) = true := by rw [bne_iff_ne]; omega
          clear HD3 hZ
          go_enter Tryz.func8, Tryz.ntmps8
          go_wp2_with fail
          (with_reducible refine (CQ.out _).mono ?_); rintro e w1 ⟨rfl, g1⟩
          have G := Lib.hid (B0.out.trans (g1.mono B0.out.size))
          clear g1
          go_wp2_with fail
          (with_reducible refine (CX.out _ G.out).mono ?_); rintro e w2 ⟨rfl, g2⟩
          have G := Lib.hid (G.out.trans (g2.mono G.out.size))
          clear g2
          go_wp2_with fail
          (with_reducible refine (CO.out _ G.out).mono ?_); rintro e w3 ⟨rfl, g3⟩
          have G := Lib.hid ((G.out.trans (g3.mono G.out.size)).alloc (G.out.trans (g3.mono G.out.size)).size (.cells #[.int .i64 (K : Int), .int .i64 (N : Int)] 63))
          clear g3
          go_wp2_with fail
          (with_reducible refine (CB.out _ G.out).mono ?_); rintro e w4 ⟨rfl, g4⟩
          have G := Lib.hid (G.out.trans (g4.mono G.out.size))
          clear g4
          go_wp2_with fail
          go_ret2
          exact ⟨by rw [HD4.out]; rfl, G.out⟩
      · have HD3 := Lib.hid (HD2.out.trans (if_pos hS))
        have e2 : ((S : Int) != 0) = true := by rw [bne_iff_ne]; omega
        clear HD2 hS cB hbl
        go_enter Tryz.func8, Tryz.ntmps8
        go_wp2_with fail
        (with_reducible refine (CQ.out _).mono ?_); rintro e w1 ⟨rfl, g1⟩
        have G := Lib.hid (B0.out.trans (g1.mono B0.out.size))
        clear g1
        go_wp2_with fail
        (with_reducible refine (CX.out _ G.out).mono ?_); rintro e w2 ⟨rfl, g2⟩
        have G := Lib.hid (G.out.trans (g2.mono G.out.size))
        clear g2
        go_wp2_with fail
        (with_reducible refine (CO.out _ G.out).mono ?_); rintro e w3 ⟨rfl, g3⟩
        have G := Lib.hid ((G.out.trans (g3.mono G.out.size)).alloc (G.out.trans (g3.mono G.out.size)).size (.cells #[.int .i64 (K : Int), .int .i64 (N : Int)] 63))
        clear g3
        go_wp2_with fail
        go_ret2
        exact ⟨by rw [HD3.out]; rfl, G.out⟩
    · have hask : askL l [] ≠ 0 := by omega
      have HD2 := Lib.hid (HD1.out.trans (if_pos hask))
      have CE := Lib.hid (fun X hX => cE X hX hask)
      rw [hF] at CE HD2
      have e2 : ((F : Int) != 0) = true := by rw [bne_iff_ne]; omega
      clear hF hF0 hask cE cX cO cB HD HD1 hr hl hT hbl
      go_enter Tryz.func8, Tryz.ntmps8
      go_wp2_with fail
      (with_reducible refine (CQ.out _).mono ?_); rintro e w1 ⟨rfl, g1⟩
      have G := Lib.hid (B0.out.trans (g1.mono B0.out.size))
      clear g1
      go_wp2_with fail
      (with_reducible refine (CE.out _ G.out).mono ?_); rintro e w2 ⟨rfl, g2⟩
      have G := Lib.hid (G.out.trans (g2.mono G.out.size))
      clear g2
      go_wp2_with fail
      go_ret2
      exact ⟨by rw [HD2.out]; rfl, G.out⟩
  · have HD1 := Lib.hid (HD.out.trans (if_pos hE))
    have e1 : ((E : Int) != 0) = true := by rw [bne_iff_ne]; omega
    clear hE cE cX cO cB HD hr hl hT hbl
    go_enter Tryz.func8, Tryz.ntmps8
    go_wp2_with fail
    (with_reducible refine (CQ.out _).mono ?_); rintro e w1 ⟨rfl, g1⟩
    have G := Lib.hid (B0.out.trans (g1.mono B0.out.size))
    clear g1
    go_wp2_with fail
    go_ret2
    exact ⟨by rw [HD1.out]; rfl, G.out⟩

set_option maxRecDepth 100000 in
theorem rByteOf (b : UInt8) (w : World) :
    Calls Tryz.prog 84 #[.int .u8 (b.toNat : Int)] w fun e w' => e = .returned (.bool (charQ b)) ∧ w' = w := by
  have hb : b.toNat < 256 := b.toNat_lt
  have h35 : (b == 35) = decide (b.toNat = 35) := by
    by_cases h : b = 35
    · subst h; rfl
    · rw [beq_eq_false_iff_ne.2 h]
      have : b.toNat ≠ 35 := fun e => h (UInt8.toNat_inj.1 e)
      simp [this]
  have hc : charQ b = (decide (33 ≤ b.toNat) && decide (b.toNat ≤ 126) && !(decide (b.toNat = 35))) := by unfold charQ; rw [h35]
  rw [hc]
  clear hc h35
  obtain ⟨n, hn⟩ : ∃ n, b.toNat = n := ⟨_, rfl⟩
  rw [hn] at hb ⊢
  clear hn
  by_cases h1 : 33 ≤ n
  · by_cases h2 : n ≤ 126
    · by_cases h3 : n = 35
      · subst h3
        go_enter Tryz.func84, Tryz.ntmps84
        go_wp2_with fail
        go_ret
        exact ⟨rfl, rfl⟩
      · have i1 : (32 : Int) < (n : Int) := by omega
        have i2 : (n : Int) < 127 := by omega
        have i3 : ((n : Int) == 35) = false := by rw [beq_eq_false_iff_ne]; omega
        have i4 : ((n : Int) != 35) = true := by rw [bne_iff_ne]; omega
        have HF := Lib.hid (And.intro h1 (And.intro h2 h3))
        clear h1 h2 h3
        go_enter Tryz.func84, Tryz.ntmps84
        go_wp2_with fail
        go_ret
        exact ⟨by simp [HF.out.1, HF.out.2.1, HF.out.2.2], rfl⟩
    · have i1 : (32 : Int) < (n : Int) := by omega
      have i2 : ¬ (n : Int) < 127 := by omega
      have HF := Lib.hid h2
      clear h2
      go_enter Tryz.func84, Tryz.ntmps84
      go_wp2_with fail
      go_ret
      exact ⟨by simp [HF.out], rfl⟩
  · have i1 : ¬ (32 : Int) < (n : Int) := by omega
    have HF := Lib.hid h1
    clear h1
    go_enter Tryz.func84, Tryz.ntmps84
    go_wp2_with fail
    go_ret
    exact ⟨by simp [HF.out], rfl⟩
theorem tgtT_all {t : List UInt8} : tgtT t = (decide (t.head? = some 47) && t.all charQ) := rfl
set_option maxRecDepth 100000 in
set_option maxHeartbeats 4000000 in
theorem rTarget (t : List UInt8) (w : World) (ht : t.length ≤ 1000000) :
    Calls Tryz.prog 53 #[.string (bs t)] w fun e w' => e = .returned (.int .i64 ((if 1024 < t.length then 4 else if tgtT t = false then 3 else 0 : Nat) : Int)) ∧ w' = w := by
  have zt := bs_size t
  obtain ⟨E, hE⟩ : ∃ E, (if 1024 < t.length then 4 else if tgtT t = false then 3 else 0 : Nat) = E := ⟨_, rfl⟩
  rw [hE]
  have HE := Lib.hid hE
  have CB := Lib.hid rByteOf
  obtain ⟨T, hT⟩ : ∃ T, bs t = T := ⟨_, rfl⟩
  have HT := Lib.hid hT
  rw [hT] at zt ⊢
  clear hE hT
  by_cases h1 : 1024 < t.length
  · have hEq : E = 4 := by rw [← HE.out, if_pos h1]
    have i1 : (1024 : Int) < (T.size : Int) := by omega
    subst hEq
    clear h1
    go_enter Tryz.func53, Tryz.ntmps53
    go_wp2_with fail
    go_ret
    exact ⟨rfl, rfl⟩
  have i1 : ¬ (1024 : Int) < (T.size : Int) := by omega
  have hE2 : (if tgtT t = false then 3 else 0) = E := by rw [← HE.out, if_neg h1]
  have HE2 := Lib.hid hE2
  clear hE2 h1
  go_enter Tryz.func53, Tryz.ntmps53
  go_wp2_with fail
  go_loop [3] (fun i => ∃ k : Nat, i = .int .i64 k ∧ k ≤ T.size ∧ Hid (∀ b ∈ t.take k, charQ b = true)) (fun i => T.size - (intOf i).toNat)
  case atStart => exact ⟨0, rfl, by omega, hide (by simp)⟩
  case round =>
    obtain ⟨k, rfl, hk, hI⟩ := hrel
    by_cases hlt : k < T.size
    · have hkl : k < t.length := by omega
      obtain ⟨b, hb, hbl⟩ : ∃ b, T[k] = b ∧ t[k] = b := ⟨T[k], rfl, by have h := HT.out; subst h; rfl⟩
      have HBL := Lib.hid hbl
      clear hbl
      cases hc : charQ b with
      | false =>
        have hT0 : tgtT t = false := by
          rw [tgtT_all, Bool.and_eq_false_iff]
          refine .inr ?_
          rw [List.all_eq_false]
          exact ⟨t[k], List.getElem_mem hkl, by rw [HBL.out, hc]; simp⟩
        have hE3 : E = 3 := by rw [← HE2.out, if_pos hT0]
        have HE3 := Lib.hid hE3
        have CX := Lib.hid (fun X => CB.out b X)
        rw [hc] at CX
        clear hT0 hE3 hc
        go_wp2_with fail
        (with_reducible refine (CX.out _).mono ?_); rintro e w1 ⟨rfl, rfl⟩
        go_wp2_with fail
        go_ret
        exact ⟨by rw [HE3.out]; rfl, rfl⟩
      | true =>
        have CX := Lib.hid (fun X => CB.out b X)
        rw [hc] at CX
        have hall : ∀ x ∈ t.take (k + 1), charQ x = true := by
          intro x hx
          rw [List.take_succ_eq_append_getElem hkl] at hx
          rcases List.mem_append.1 hx with hx | hx
          · exact hI.out x hx
          · rw [List.mem_singleton.1 hx, HBL.out]; exact hc
        have HALL := Lib.hid hall
        clear hall hc
        go_wp2_with fail
        (with_reducible refine (CX.out _).mono ?_); rintro e w1 ⟨rfl, rfl⟩
        go_wp2_with fail
        go_round
        case rel => exact ⟨k + 1, by go_num, by omega, hide HALL.out⟩
        case measure => simp [intOf]; omega
    · obtain rfl : k = T.size := by omega
      have hall : t.all charQ = true := by
        rw [List.all_eq_true]
        intro x hx
        exact hI.out x (by rw [zt, List.take_length]; exact hx)
      have hd : decide ((T.size : Int) < (T.size : Int)) = false := by simp
      have hTT : tgtT t = decide (t.head? = some 47) := by rw [tgtT_all, hall, Bool.and_true]
      have HTT := Lib.hid hTT
      clear hall hTT
      cases t with
      | nil =>
        have hem : T.toList.isEmpty = true ∧ T.toList = [] := by have h := HT.out; subst h; rw [bs_toList]; exact ⟨rfl, rfl⟩
        obtain ⟨m1, m2⟩ := hem
        have HE3 := Lib.hid (show E = 3 by rw [← HE2.out, if_pos (by rw [HTT.out]; rfl)])
        go_wp2_with fail
        go_ret
        exact ⟨by rw [HE3.out]; rfl, rfl⟩
      | cons x r =>
        have hem : T.toList.isEmpty = false ∧ ¬ T.toList = [] := by
          have h := HT.out; subst h
          rw [bs_toList]; exact ⟨rfl, by simp⟩
        obtain ⟨m1, m2⟩ := hem
        have h0 : 0 < T.size := by rw [zt]; simp
        have hx0 : T[0] = x := by have h := HT.out; subst h; rfl
        have i0 : (0 : Int) < (T.size : Int) := by omega
        by_cases h47 : x = 47
        · have e47 : ((x.toNat : Int) != 47) = false := by rw [h47]; rfl
          have HE3 := Lib.hid (show E = 0 by rw [← HE2.out, if_neg (by rw [HTT.out, h47]; simp)])
          clear h47
          go_wp2_with fail
          go_ret
          exact ⟨by rw [HE3.out]; rfl, rfl⟩
        · have n47 : x.toNat ≠ 47 := fun e => h47 (UInt8.toNat_inj.1 e)
          have e47 : ((x.toNat : Int) != 47) = true := by rw [bne_iff_ne]; omega
          have HE3 := Lib.hid (show E = 3 by rw [← HE2.out, if_pos (by rw [HTT.out]; simp; exact h47)])
          clear h47 n47
          go_wp2_with fail
          go_ret
          exact ⟨by rw [HE3.out]; rfl, rfl⟩

set_option maxRecDepth 100000 in
set_option maxHeartbeats 8000000 in
theorem rTextQ (m t : List UInt8) (w : World) (hm : m.length ≤ 1000000) (ht : t.length ≤ 1000000) :
    Calls Tryz.prog 30 #[.agg #[.string (bs m), .string (bs t)]] w fun e w' => e = .returned (.tuple #[.string (bs (reqT m t).1), .int .i64 ((reqT m t).2 : Nat)]) ∧ Below w.heap.size w w' := by
  have b0 : Below w.heap.size w (w.alloc (.cells #[.string (bs m), .string (bs t)] 24)) := (Below.refl _ _).alloc (Nat.le_refl _) _
  have k0 := Blk.new w 24 #[.string (bs m), .string (bs t)]
  have zm := bs_size m
  have zt := bs_size t
  have cI := fun X => rIs (bs m) X (by omega)
  have cT := fun X => rTarget t X ht
  rw [bs_list] at cI
  have hdef : reqT m t = if 16 < m.length ∨ isTok m = false then ([], 11) else if 1024 < t.length then ([], 4) else if tgtT t = false then ([], 3) else (m ++ [32] ++ t ++ [32] ++ verS, 0) := rfl
  have CI := Lib.hid cI
  have CT := Lib.hid cT
  have B0 := Lib.hid (And.intro b0 k0)
  have c0 : (w.alloc (.cells #[.string (bs m), .string (bs t)] 24)).cell? ⟨w.heap.size, 0, none⟩ = some (.string (bs m)) := k0.cell 0
  have c1 : (w.alloc (.cells #[.string (bs m), .string (bs t)] 24)).cell? ⟨w.heap.size, 1, none⟩ = some (.string (bs t)) := k0.cell 1
  clear b0 k0 cI cT
  by_cases h16 : 16 < m.length
  · have hR : reqT m t = ([], 11) := by rw [hdef, if_pos (.inl h16)]
    have i1 : (16 : Int) < ((bs m).size : Int) := by omega
    have d1 : decide ((16 : Int) < ((bs m).size : Int)) = true := by simp; omega
    have HR := Lib.hid hR
    clear hdef hR h16
    go_enter Tryz.func30, Tryz.ntmps30
    go_wp2_with fail
    go_ret2
    exact ⟨by rw [HR.out]; rfl, B0.out.1⟩
  have i1 : ¬ (16 : Int) < ((bs m).size : Int) := by omega
  have d1 : decide ((16 : Int) < ((bs m).size : Int)) = false := by simp; omega
  cases hk : isTok m with
  | false =>
    have hR : reqT m t = ([], 11) := by rw [hdef, if_pos (.inr hk)]
    rw [hk] at CI
    have HR := Lib.hid hR
    clear hdef hR h16 hk
    go_enter Tryz.func30, Tryz.ntmps30
    go_wp2_with fail
    (with_reducible refine (CI.out _).mono ?_); rintro e w1 ⟨rfl, rfl⟩
    go_wp2_with fail
    go_ret2
    exact ⟨by rw [HR.out]; rfl, B0.out.1⟩
  | true =>
    rw [hk] at CI
    rw [if_neg (fun e => e.elim h16 (fun e => by rw [hk] at e; cases e))] at hdef
    obtain ⟨E, hE⟩ : ∃ E, (if 1024 < t.length then 4 else if tgtT t = false then 3 else 0) = E := ⟨_, rfl⟩
    rw [hE] at CT
    have hcase : (E = 0 ∧ t.length ≤ 1024 ∧ reqT m t = (m ++ [32] ++ t ++ [32] ++ verS, 0)) ∨ (E ≠ 0 ∧ reqT m t = ([], E)) := by
      by_cases a1 : 1024 < t.length
      · rw [if_pos a1] at hE hdef; subst hE; exact .inr ⟨by decide, hdef⟩
      · rw [if_neg a1] at hE hdef
        by_cases a2 : tgtT t = false
        · rw [if_pos a2] at hE hdef; subst hE; exact .inr ⟨by decide, hdef⟩
        · rw [if_neg a2] at hE hdef; subst hE; exact .inl ⟨rfl, by omega, hdef⟩
    clear hdef h16 hk hE
    rcases hcase with ⟨hE, ht1, hR⟩ | ⟨hE, hR⟩
    · subst hE
      have e1 : (((0 : Nat) : Int) != 0) = false := rfl
      have HR := Lib.hid hR
      have s1 : (bs m).size ≤ 16 := by omega
      have s2 : (bs t).size ≤ 1024 := by omega
      clear hR ht1
      go_enter Tryz.func30, Tryz.ntmps30
      go_wp2_with fail
      (with_reducible refine (CI.out _).mono ?_); rintro e w1 ⟨rfl, rfl⟩
      go_wp2_with fail
      (with_reducible refine (CT.out _).mono ?_); rintro e w2 ⟨rfl, rfl⟩
      go_wp2_with fail
      go_ret2
      exact ⟨by rw [HR.out, ← req_app]; rfl, B0.out.1⟩
    · have e1 : ((E : Int) != 0) = true := by rw [bne_iff_ne]; omega
      have HR := Lib.hid hR
      clear hR hE
      go_enter Tryz.func30, Tryz.ntmps30
      go_wp2_with fail
      (with_reducible refine (CI.out _).mono ?_); rintro e w1 ⟨rfl, rfl⟩
      go_wp2_with fail
      (with_reducible refine (CT.out _).mono ?_); rintro e w2 ⟨rfl, rfl⟩
      go_wp2_with fail
      go_ret2
      exact ⟨by rw [HR.out]; rfl, B0.out.1⟩
theorem askL_nil (l : List Fld) : askL l [] = (checkL l).1 := by
  unfold askL; split
  · rfl
  · rename_i h; simp at h; simp [h]
theorem line_app (L : List UInt8) (x : List UInt8) : bs L ++ bs x ++ ⟨#[13, 10]⟩ = bs (L ++ x ++ [13, 10]) := by
  apply ba_ext
  rw [append_toList, append_toList, bs_list, bs_list, bs_list]
set_option maxRecDepth 100000 in
set_option maxHeartbeats 8000000 in
theorem rText06 (A : Option Addr) (n c : Nat) (l : List Fld) (w : World) (hr : Reads w w.heap.size 2 A n (fldsC l)) (hn : n ≤ 100000) (hl : fldsOk l) :
    Calls Tryz.prog 34 #[.slice A n c] w fun e w' => e = .returned (.tuple #[.string (bs (if askL l [] = 0 then textL l else [])), .int .i64 (askL l [] : Nat)]) ∧ Below w.heap.size w w' := by
  obtain rfl := hr.flen
  have cC := rCheckF A l.length c l w hr (by omega) hl
  obtain ⟨⟨E, at_⟩, hE⟩ : ∃ x, checkL l = x := ⟨_, rfl⟩
  have hask : askL l [] = E := by rw [askL_nil, hE]
  rw [hE] at cC
  simp only at cC
  have CC := Lib.hid cC
  clear cC hE
  by_cases h0 : E = 0
  · obtain ⟨h32, hall⟩ := askL_fields (hask.trans h0)
    rw [hask]
    subst h0
    rw [if_pos rfl]
    have e1 : (((0 : Nat) : Int) != 0) = false := rfl
    have HR := Lib.hid hr
    have HA := Lib.hid (And.intro hall hl)
    clear hask hr hall hl
    go_enter Tryz.func34, Tryz.ntmps34
    go_wp2_with fail
    (with_reducible refine (CC.out).mono ?_); rintro e w1 ⟨rfl, g1⟩
    have HRw := Lib.hid ((HR.out.below g1).more g1.size)
    have G1 := Lib.hid g1
    clear g1
    go_wp2_with fail
    go_loopw [6, 7] (fun o i wr => ∃ k : Nat, i = .int .i64 k ∧ k ≤ l.length ∧ o = .string (bs (textL (l.take k))) ∧ Hid (Below w1.heap.size w1 wr)) (fun _ i _ => l.length - (intOf i).toNat)
    case atStart => exact ⟨0, rfl, by omega, rfl, hide (Below.refl _ _)⟩
    case round =>
      obtain ⟨k, rfl, hk, rfl, HB⟩ := hrel
      rename World => W0
      by_cases hlt : k < l.length
      · obtain ⟨b, o, rfl, hbl, q0, q1⟩ := HRw.out.fld k hlt
        have c0 := (HB.out.cell (p := ⟨b, o + k * 2, none⟩) hbl).trans q0
        have c1 := (HB.out.cell (p := ⟨b, o + k * 2 + 1, none⟩) hbl).trans q1
        have htk : ∀ f ∈ l.take k, oneL f = 0 := fun f hf => HA.out.1 f (List.mem_of_mem_take hf)
        have htl := textL_len (l.take k) htk
        have hkl : (l.take k).length = k := by rw [List.length_take]; omega
        have hsu : textL (l.take (k + 1)) = textL (l.take k) ++ lineL l[k] ++ [13, 10] := by
          rw [List.take_succ_eq_append_getElem hlt, textL_app]
        have hok := HA.out.2 l[k] (List.getElem_mem hlt)
        have hll := oneL_len (HA.out.1 l[k] (List.getElem_mem hlt))
        obtain ⟨f, hf⟩ : ∃ f, l[k] = f := ⟨_, rfl⟩
        rw [hf] at c0 c1 hok hsu hll
        have cL := fun X => rline f X (by omega) (by omega)
        unfold fldV at cL
        obtain ⟨T, hT⟩ : ∃ T, bs (textL (l.take k)) = T := ⟨_, rfl⟩
        have zt : T.size ≤ 20000 := by rw [← hT, bs_size]; omega
        have zl : (bs (lineL f)).size ≤ 250000 := by
          rw [bs_size]; unfold lineL; split
          · simp only [List.length_append, List.length_cons, List.length_nil]; omega
          · simp only [List.length_append, List.length_cons, List.length_nil]; omega
        have ha : T ++ bs (lineL f) ++ ⟨#[13, 10]⟩ = bs (textL (l.take (k + 1))) := by rw [hsu, ← hT]; exact line_app _ _
        rw [hT]
        have CL := Lib.hid cL
        have HH := Lib.hid ha
        obtain ⟨Z, hZ⟩ : ∃ Z, bs (lineL f) = Z := ⟨_, rfl⟩
        rw [hZ] at CL HH zl
        clear q0 q1 htk htl hkl hsu hok hll hf cL hT ha hZ
        go_wp2_with fail
        (with_reducible refine (CL.out _).mono ?_); rintro e w2 ⟨rfl, g2⟩
        have HB2 := Lib.hid (HB.out.trans (g2.mono HB.out.size))
        clear g2
        go_wp2_with fail
        go_roundw
        case rel => exact ⟨k + 1, by go_num, by omega, by rw [HH.out], hide HB2.out⟩
        case measure => simp [intOf]; omega
      · obtain rfl : k = l.length := by omega
        have hd2 : decide ((l.length : Int) < (l.length : Int)) = false := by simp
        have ht : l.take l.length = l := List.take_length
        have HTK := Lib.hid ht
        clear ht
        go_wp2_with fail
        go_ret2
        exact ⟨by rw [HTK.out]; rfl, G1.out.trans (HB.out.mono G1.out.size)⟩
  · rw [hask, if_neg h0]
    have e1 : ((E : Int) != 0) = true := by rw [bne_iff_ne]; omega
    clear hask hr hl h0
    go_enter Tryz.func34, Tryz.ntmps34
    go_wp2_with fail
    (with_reducible refine (CC.out).mono ?_); rintro e w1 ⟨rfl, g1⟩
    go_wp2_with fail
    go_ret2
    exact ⟨rfl, g1⟩

set_option maxRecDepth 100000 in
set_option maxHeartbeats 8000000 in
theorem rText11 (m t body : List UInt8) (A : Option Addr) (n c : Nat) (l : List Fld) (w : World) (hm : m.length ≤ 1000000) (ht : t.length ≤ 1000000) (hb : body.length ≤ 1000000) (hr : Reads w w.heap.size 2 A n (fldsC l)) (hn : n ≤ 100000) (hl : fldsOk l) :
    Calls Tryz.prog 21 #[.agg #[.string (bs m), .string (bs t)], .slice A n c, .string (bs body)] w fun e w' => e = .returned (.tuple #[.string (bs (textP m t l body).1), .int .i64 ((textP m t l body).2 : Nat)]) ∧ Below w.heap.size w w' := by
  obtain rfl := hr.flen
  have b0 : Below w.heap.size w (w.alloc (.cells #[.string (bs m), .string (bs t)] 24)) := (Below.refl _ _).alloc (Nat.le_refl _) _
  have k0 := Blk.new w 24 #[.string (bs m), .string (bs t)]
  have hdef : textP m t l body = if (reqT m t).2 ≠ 0 then ([], (reqT m t).2) else if askL l [] ≠ 0 then ([], askL l []) else if (ofT l).2.2 ≠ 0 then ([], 3)
    else if (bytesT ((ofT l).1 : Nat) ((ofT l).2.1 : Nat) body).2 ≠ 0 then ([], 3)
    else ((reqT m t).1 ++ [13, 10] ++ textL l ++ [13, 10] ++ (bytesT ((ofT l).1 : Nat) ((ofT l).2.1 : Nat) body).1, 0) := rfl
  have cQ := fun X => rTextQ m t X hm ht
  have cE := fun X (hX : Below w.heap.size w X) => rCheckF A l.length c l X ((hr.below hX).more hX.size) (by omega) hl
  have cX := fun X (hX : Below w.heap.size w X) => rText06 A l.length c l X ((hr.below hX).more hX.size) hn hl
  have cO := fun X (hX : Below w.heap.size w X) (h1 : l.length ≤ 32) (h2 : ∀ f ∈ l, oneL f = 0) => rOf A l.length c l X ((hr.below hX).more hX.size) (by omega) (fldsS_of h2)
  have cB := fun (K N : Int) X => rBytes K N (bs body) (by rw [bs_size]; omega) X
  have hrl : (reqT m t).1.length ≤ 3000000 := by
    unfold reqT; split
    · simp
    · split
      · simp
      · split
        · simp
        · simp only [List.length_append, List.length_cons, List.length_nil]; show _ + 1 + _ + 1 + 8 ≤ _; omega
  have hbl := fun K N => bytes_len (K := K) (n := N) hb
  obtain ⟨⟨q, E⟩, hq⟩ : ∃ x, reqT m t = x := ⟨_, rfl⟩
  rw [hq] at cQ hdef hrl
  simp only at cQ hdef hrl
  obtain ⟨⟨F, at_⟩, hCk⟩ : ∃ x, checkL l = x := ⟨_, rfl⟩
  have hF : askL l [] = F := by rw [askL_nil, hCk]
  rw [hCk] at cE
  simp only at cE
  have CQ := Lib.hid cQ
  have CE := Lib.hid cE
  have HD := Lib.hid hdef
  have B0 := Lib.hid b0
  have c0 : (w.alloc (.cells #[.string (bs m), .string (bs t)] 24)).cell? ⟨w.heap.size, 0, none⟩ = some (.string (bs m)) := k0.cell 0
  have c1 : (w.alloc (.cells #[.string (bs m), .string (bs t)] 24)).cell? ⟨w.heap.size, 1, none⟩ = some (.string (bs t)) := k0.cell 1
  clear k0 b0 hdef cQ hq hCk cE
  by_cases hE : E = 0
  · subst hE
    have HD1 := Lib.hid (HD.out.trans (if_neg (by simp)))
    have e1 : (((0 : Nat) : Int) != 0) = false := rfl
    by_cases hF0 : F = 0
    · have hask : askL l [] = 0 := hF.trans hF0
      obtain ⟨h32, hall⟩ := askL_fields hask
      have HD2 := Lib.hid (HD1.out.trans (if_neg (by omega)))
      rw [hask] at cX
      rw [if_pos rfl] at cX
      have tl := textL_len l hall
      have cO2 := fun X hX => cO X hX h32 hall
      subst hF0
      obtain ⟨⟨K, N, S⟩, hK⟩ : ∃ x, ofT l = x := ⟨_, rfl⟩
      rw [hK] at cO2 HD2
      simp only at HD2
      unfold OfPost at cO2
      simp only at cO2
      have CO := Lib.hid cO2
      obtain ⟨L, hL⟩ : ∃ L, textL l = L := ⟨_, rfl⟩
      rw [hL] at cX HD2 tl
      have CX := Lib.hid cX
      clear hF hask h32 hall cX cO cO2 hK hL HD HD1 hr hl
      by_cases hS : S = 0
      · subst hS
        have HD3 := Lib.hid (HD2.out.trans (if_neg (by simp)))
        have cB2 := cB (K : Int) (N : Int)
        rw [bs_list] at cB2
        have hbl2 := hbl (K : Int) (N : Int)
        obtain ⟨⟨y, Z⟩, hy⟩ : ∃ x, bytesT (K : Int) (N : Int) body = x := ⟨_, rfl⟩
        rw [hy] at cB2 HD3 hbl2
        simp only at cB2 HD3 hbl2
        have CB := Lib.hid cB2
        clear hy cB cB2 HD2 hbl
        by_cases hZ : Z = 0
        · subst hZ
          have HD4 := Lib.hid (HD3.out.trans (if_neg (by simp)))
          have zq := bs_size q
          have zl := bs_size L
          have zy := bs_size y
          have happ := text_app q L y
          have HA := Lib.hid happ
          have s1 : (bs q).size ≤ 3000000 := by omega
          have s2 : (bs L).size ≤ 60000000 := by omega
          have s3 : (bs y).size ≤ 2000000 := by omega
          clear happ HD3 zq zl zy hrl tl hbl2 hm ht hb hn
          go_enter Tryz.func21, Tryz.ntmps21
          go_wp2_with fail
          (with_reducible refine (CQ.out _).mono ?_); rintro e w1 ⟨rfl, g1⟩
          have G := Lib.hid (B0.out.trans (g1.mono B0.out.size))
          clear g1
          go_wp2_with fail
          (with_reducible refine (CE.out _ G.out).mono ?_); rintro e w2 ⟨rfl, g2⟩
          have G := Lib.hid (G.out.trans (g2.mono G.out.size))
          clear g2
          go_wp2_with fail
          (with_reducible refine (CO.out _ G.out).mono ?_); rintro e w3 ⟨rfl, g3⟩
          have G := Lib.hid ((G.out.trans (g3.mono G.out.size)).alloc (G.out.trans (g3.mono G.out.size)).size (.cells #[.int .i64 (K : Int), .int .i64 (N : Int)] 63))
          clear g3
          go_wp2_with fail
          (with_reducible refine (CB.out _).mono ?_); rintro e w4 ⟨rfl, g4⟩
          have G := Lib.hid (G.out.trans (g4.mono G.out.size))
          clear g4
          go_wp2_with fail
          (with_reducible refine (CX.out _ G.out).mono ?_); rintro e w5 ⟨rfl, g5⟩
          have G := Lib.hid (G.out.trans (g5.mono G.out.size))
          clear g5
          go_wp2_with fail
          go_ret2
          exact ⟨by rw [HD4.out, ← HA.out]; rfl, G.out⟩
        · have HD4 := Lib.hid (HD3.out.trans (if_pos hZ))
          have e2 : ((Z : Int) != 0) = true := by rw [bne_iff_ne]; omega
          clear HD3 hZ
          go_enter Tryz.func21, Tryz.ntmps21
          go_wp2_with fail
          (with_reducible refine (CQ.out _).mono ?_); rintro e w1 ⟨rfl, g1⟩
          have G := Lib.hid (B0.out.trans (g1.mono B0.out.size))
          clear g1
          go_wp2_with fail
          (with_reducible refine (CE.out _ G.out).mono ?_); rintro e w2 ⟨rfl, g2⟩
          have G := Lib.hid (G.out.trans (g2.mono G.out.size))
          clear g2
          go_wp2_with fail
          (with_reducible refine (CO.out _ G.out).mono ?_); rintro e w3 ⟨rfl, g3⟩
          have G := Lib.hid ((G.out.trans (g3.mono G.out.size)).alloc (G.out.trans (g3.mono G.out.size)).size (.cells #[.int .i64 (K : Int), .int .i64 (N : Int)] 63))
          clear g3
          go_wp2_with fail
          (with_reducible refine (CB.out _).mono ?_); rintro e w4 ⟨rfl, g4⟩
          have G := Lib.hid (G.out.trans (g4.mono G.out.size))
          clear g4
          go_wp2_with fail
          go_ret2
          exact ⟨by rw [HD4.out]; rfl, G.out⟩
      · have HD3 := Lib.hid (HD2.out.trans (if_pos hS))
        have e2 : ((S : Int) != 0) = true := by rw [bne_iff_ne]; omega
        clear HD2 hS cB hbl
        go_enter Tryz.func21, Tryz.ntmps21
        go_wp2_with fail
        (with_reducible refine (CQ.out _).mono ?_); rintro e w1 ⟨rfl, g1⟩
        have G := Lib.hid (B0.out.trans (g1.mono B0.out.size))
        clear g1
        go_wp2_with fail
        (with_reducible refine (CE.out _ G.out).mono ?_); rintro e w2 ⟨rfl, g2⟩
        have G := Lib.hid (G.out.trans (g2.mono G.out.size))
        clear g2
        go_wp2_with fail
        (with_reducible refine (CO.out _ G.out).mono ?_); rintro e w3 ⟨rfl, g3⟩
        have G := Lib.hid ((G.out.trans (g3.mono G.out.size)).alloc (G.out.trans (g3.mono G.out.size)).size (.cells #[.int .i64 (K : Int), .int .i64 (N : Int)] 63))
        clear g3
        go_wp2_with fail
        go_ret2
        exact ⟨by rw [HD3.out]; rfl, G.out⟩
    · have hask : askL l [] ≠ 0 := by omega
      have HD2 := Lib.hid (HD1.out.trans (if_pos hask))
      rw [hF] at HD2
      have e2 : ((F : Int) != 0) = true := by rw [bne_iff_ne]; omega
      clear hF hF0 hask cX cO cB HD HD1 hr hl hbl
      go_enter Tryz.func21, Tryz.ntmps21
      go_wp2_with fail
      (with_reducible refine (CQ.out _).mono ?_); rintro e w1 ⟨rfl, g1⟩
      have G := Lib.hid (B0.out.trans (g1.mono B0.out.size))
      clear g1
      go_wp2_with fail
      (with_reducible refine (CE.out _ G.out).mono ?_); rintro e w2 ⟨rfl, g2⟩
      have G := Lib.hid (G.out.trans (g2.mono G.out.size))
      clear g2
      go_wp2_with fail
      go_ret2
      exact ⟨by rw [HD2.out]; rfl, G.out⟩
  · have HD1 := Lib.hid (HD.out.trans (if_pos hE))
    have e1 : ((E : Int) != 0) = true := by rw [bne_iff_ne]; omega
    clear hE hF cX cO cB HD hr hl hbl
    go_enter Tryz.func21, Tryz.ntmps21
    go_wp2_with fail
    (with_reducible refine (CQ.out _).mono ?_); rintro e w1 ⟨rfl, g1⟩
    have G := Lib.hid (B0.out.trans (g1.mono B0.out.size))
    clear g1
    go_wp2_with fail
    go_ret2
    exact ⟨by rw [HD1.out]; rfl, G.out⟩

def LightW (m t : List UInt8) (l : List Fld) : Prop := l.length ≤ 40 ∧ m.length ≤ 100 ∧ t.length ≤ 1100 ∧ ∀ f ∈ l, f.1.length ≤ 700 ∧ f.2.length ≤ 700
def LightPostW (m t : List UInt8) (l : List Fld) (w : World) (e : Ending) (w' : World) : Prop := ∃ b : Bool, e = .returned (.bool b) ∧ (b = true → LightW m t l) ∧ Below w.heap.size w w'
def lineV (m t : List UInt8) (A : Option Addr) (n c : Nat) : Array Value := #[.int .i64 0, .string ⟨#[]⟩, .string (bs m), .string (bs t), .slice A n c, .string ⟨#[]⟩, .int .i64 0, .int .i64 0, .int .i64 0, .int .i64 0, .int .i64 0, .string ⟨#[]⟩, .string ⟨#[]⟩, .int .i64 0, .int .i64 0]
set_option maxRecDepth 100000 in
set_option maxHeartbeats 4000000 in
theorem pLight11 (m t : List UInt8) (A : Option Addr) (n c : Nat) (l : List Fld) (w : World) (hr : Reads w w.heap.size 2 A n (fldsC l)) (hn : n ≤ 9223372036854775807) (hm : m.length ≤ 9223372036854775807) (ht : t.length ≤ 9223372036854775807) (hx : ∀ f ∈ l, f.1.length ≤ 9223372036854775807 ∧ f.2.length ≤ 9223372036854775807) :
    Calls Tryz.prog 19 #[.agg (lineV m t A n c)] w (LightPostW m t l w) := by
  obtain rfl := hr.flen
  have b0 : Below w.heap.size w (w.alloc (.cells (lineV m t A l.length c) 34)) := (Below.refl _ _).alloc (Nat.le_refl _) _
  have k0 := Blk.new w 34 (lineV m t A l.length c)
  unfold lineV at b0 k0 ⊢
  have zm := bs_size m
  have zt := bs_size t
  obtain ⟨W1, hW1⟩ : ∃ W1, (w.alloc (.cells #[.int .i64 0, .string ⟨#[]⟩, .string (bs m), .string (bs t), .slice A l.length c, .string ⟨#[]⟩, .int .i64 0, .int .i64 0, .int .i64 0, .int .i64 0, .int .i64 0, .string ⟨#[]⟩, .string ⟨#[]⟩, .int .i64 0, .int .i64 0] 34)) = W1 := ⟨_, rfl⟩
  rw [hW1] at b0 k0
  have HR := Lib.hid (hr.below b0)
  have y1 : W1.cell? ⟨w.heap.size, 1, none⟩ = some (.string ⟨#[]⟩) := k0.cell 1
  have y2 : W1.cell? ⟨w.heap.size, 2, none⟩ = some (.string (bs m)) := k0.cell 2
  have y3 : W1.cell? ⟨w.heap.size, 3, none⟩ = some (.string (bs t)) := k0.cell 3
  have y4 : W1.cell? ⟨w.heap.size, 4, none⟩ = some (.slice A l.length c) := k0.cell 4
  have y5 : W1.cell? ⟨w.heap.size, 5, none⟩ = some (.string ⟨#[]⟩) := k0.cell 5
  have y11 : W1.cell? ⟨w.heap.size, 11, none⟩ = some (.string ⟨#[]⟩) := k0.cell 11
  have y12 : W1.cell? ⟨w.heap.size, 12, none⟩ = some (.string ⟨#[]⟩) := k0.cell 12
  have HX := Lib.hid hx
  have B0 := Lib.hid b0
  clear b0 k0 hr hx
  go_enter Tryz.func19, Tryz.ntmps19
  go_wp2_with fail
  go_loop [3] (fun i => ∃ k : Nat, i = .int .i64 k ∧ k ≤ l.length ∧ k ≤ 41 ∧ Hid (∀ f ∈ l.take k, f.1.length ≤ 700 ∧ f.2.length ≤ 700)) (fun i => l.length - (intOf i).toNat)
  case atStart => exact ⟨0, rfl, by omega, by omega, hide (by simp)⟩
  case round =>
    obtain ⟨k, rfl, hk, hk40, hA⟩ := hrel
    by_cases hlt : k < l.length ∧ k < 41
    · obtain ⟨hlt, hl4⟩ := hlt
      obtain ⟨b, o, rfl, _, p0, p1⟩ := HR.out.fld k hlt
      have hfk := HX.out l[k] (List.getElem_mem hlt)
      obtain ⟨f, hf⟩ : ∃ f, l[k] = f := ⟨_, rfl⟩
      rw [hf] at p0 p1 hfk
      have z1 := bs_size f.1
      have z2 := bs_size f.2
      have i0 : (0 : Int) ≤ (k : Int) := by omega
      have i1 : (k : Int) < (l.length : Int) := by omega
      have HF := Lib.hid hf
      clear hf
      by_cases h1 : 700 < f.1.length
      · go_wp2_with fail
        go_ret
        exact ⟨false, rfl, (fun e => by cases e), B0.out⟩
      · by_cases h2 : 700 < f.2.length
        · go_wp2_with fail
          go_ret
          exact ⟨false, rfl, (fun e => by cases e), B0.out⟩
        · have hA2 : Hid (∀ f ∈ l.take (k + 1), f.1.length ≤ 700 ∧ f.2.length ≤ 700) := hide (by
            intro g hg
            rw [List.take_succ_eq_append_getElem hlt] at hg
            rcases List.mem_append.1 hg with hg | hg
            · exact hA.out g hg
            · rw [List.mem_singleton.1 hg, HF.out]; omega)
          go_wp2_with fail
          go_round
          case rel => exact ⟨k + 1, by go_num, by omega, by omega, hA2⟩
          case measure => simp [intOf]; omega
    · by_cases h40 : l.length ≤ 40
      · obtain rfl : k = l.length := by omega
        have hA2 := hA.out
        rw [List.take_length] at hA2
        have HA2 := Lib.hid hA2
        have hd : decide ((l.length : Int) < (l.length : Int)) = false := by simp
        have hd2 : decide ((l.length : Int) ≤ 40) = true := by simp; omega
        clear hA hA2 hlt
        by_cases h5 : m.length ≤ 100
        · have hd3 : decide ((m.length : Int) ≤ 100) = true := by simp; omega
          by_cases h6 : t.length ≤ 1100
          · have hd4 : decide ((t.length : Int) ≤ 1100) = true := by simp; omega
            go_wp2_with fail
            go_ret
            exact ⟨true, rfl, fun _ => ⟨h40, h5, h6, HA2.out⟩, B0.out⟩
          · have hd4 : decide ((t.length : Int) ≤ 1100) = false := by simp; omega
            go_wp2_with fail
            go_ret
            exact ⟨false, rfl, (fun e => by cases e), B0.out⟩
        · have hd3 : decide ((m.length : Int) ≤ 100) = false := by simp; omega
          go_wp2_with fail
          go_ret
          exact ⟨false, rfl, (fun e => by cases e), B0.out⟩
      · have hd2 : decide ((l.length : Int) ≤ 40) = false := by simp; omega
        by_cases hk41 : k < 41
        · omega
        · obtain rfl : k = 41 := by omega
          clear hA hlt
          by_cases hq : l.length = 41
          · have hd : decide ((41 : Int) < (l.length : Int)) = false := by simp; omega
            go_wp2_with fail
            go_ret
            exact ⟨false, rfl, (fun e => by cases e), B0.out⟩
          · have hd : decide ((41 : Int) < (l.length : Int)) = true := by simp; omega
            go_wp2_with fail
            go_ret
            exact ⟨false, rfl, (fun e => by cases e), B0.out⟩
end Go.Proofs.YtencphfhpnljlaaGreatDoor
