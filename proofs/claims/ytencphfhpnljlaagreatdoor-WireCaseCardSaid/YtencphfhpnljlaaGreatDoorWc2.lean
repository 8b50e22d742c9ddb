/-
  WireCase, the law. Printed by genwc.py.
-/
import Derived.Test.YtencphfhpnljlaaGreatDoorWkA
import Derived.Test.YtencphfhpnljlaaGreatDoorLw2
import Derived.Test.YtencphfhpnljlaaGreatDoorWiTabs
import Derived.Test.YtencphfhpnljlaaGreatDoorWd2
import Derived.Deep.RegionHeld3
namespace Go.Proofs.YtencphfhpnljlaaGreatDoor
open Go.RowKit

theorem made_val (k : Nat) : ∀ f ∈ madeL k, f.2 ≠ [] := by
  have h : ∀ j : Fin 1080, (madeL j.val).all (fun f => !f.2.isEmpty) = true := by decide +kernel
  have h := h ⟨k % 1080, Nat.mod_lt _ (by omega)⟩
  simp only [(made_mod k).2.2.1, List.all_eq_true] at h
  intro f hf e
  have := h f hf
  rw [e] at this; simp at this
theorem line_len {f : Fld} (h : f.2 ≠ []) : (lineL f).length = f.1.length + 2 + f.2.length := by
  unfold lineL
  rw [if_neg h]
  simp only [List.length_append, List.length_cons, List.length_nil]
def capL (up : Bool) (l : List UInt8) : List UInt8 := if up then l.map upB else l
theorem capL_len (up : Bool) (l : List UInt8) : (capL up l).length = l.length := by unfold capL; split <;> simp
theorem capL_get (up : Bool) (l : List UInt8) (q : Nat) (h : q < l.length) : (capL up l)[q]'(by rw [capL_len]; exact h) = if up then upB l[q] else l[q] := by
  cases up <;> simp [capL]
theorem caseL_is (up : Bool) (j : Nat) (f : Fld) : caseL up j f = capL up f.1 ++ [58] ++ pad1 j ++ f.2 ++ pad2 j ++ [13, 10] := rfl
theorem cat6 (s n p v r : List UInt8) : bs s ++ bs n ++ ⟨#[58]⟩ ++ bs p ++ bs v ++ bs r ++ ⟨#[13, 10]⟩ = bs (s ++ (n ++ [58] ++ p ++ v ++ r ++ [13, 10])) := by
  apply ba_ext
  simp only [append_toList, bs_list, List.append_assoc]
theorem pads (j : Nat) : (pad1 j).length ≤ 3 ∧ (pad2 j).length ≤ 2 := by
  unfold pad1 pad2; constructor
  · split
    · simp
    · split <;> simp
  · split
    · simp
    · split <;> simp
theorem case_len (up : Bool) (j : Nat) : ∀ l : List Fld, (∀ f ∈ l, f.1.length ≤ 100 ∧ f.2.length ≤ 100) → (l.flatMap (caseL up j)).length ≤ l.length * 300
  | [], _ => by simp
  | f :: l, h => by
    have h1 := case_len up j l (fun g hg => h g (List.mem_cons_of_mem _ hg))
    have h2 := h f List.mem_cons_self
    obtain ⟨p1, p2⟩ := pads j
    rw [List.flatMap_cons, List.length_append, caseL_is]
    simp only [List.length_append, List.length_cons, List.length_nil, capL_len, Nat.add_mul, Nat.one_mul]
    omega
theorem text_len : ∀ l : List Fld, (∀ f ∈ l, f.1.length ≤ 100 ∧ f.2.length ≤ 100) → (∀ f ∈ l, f.2 ≠ []) → (textL l).length ≤ l.length * 300
  | [], _, _ => by simp [textL]
  | f :: l, h, h' => by
    have h1 := text_len l (fun g hg => h g (List.mem_cons_of_mem _ hg)) (fun g hg => h' g (List.mem_cons_of_mem _ hg))
    have h2 := h f List.mem_cons_self
    have h3 := line_len (h' f List.mem_cons_self)
    unfold textL at h1 ⊢
    rw [List.flatMap_cons, List.length_append, List.length_append, h3]
    simp only [List.length_cons, List.length_nil, Nat.add_mul, Nat.one_mul]
    omega
theorem upB_in {x : UInt8} (h1 : 97 ≤ x.toNat) (h2 : x.toNat ≤ 122) : (upB x).toNat = x.toNat - 32 := by
  unfold upB
  rw [if_pos ⟨h1, h2⟩]
  exact UInt8.toNat_ofNat_of_lt' (by show _ < 256; omega)
theorem upB_out {x : UInt8} (h : ¬ (97 ≤ x.toNat ∧ x.toNat ≤ 122)) : upB x = x := by unfold upB; rw [if_neg h]
set_option maxRecDepth 100000 in
set_option maxHeartbeats 32000000 in
theorem WireCase_true (z how : Int) (w : World) (hz1 : -9223372036854775808 ≤ z) (hz2 : z ≤ 9223372036854775807) (hh1 : -9223372036854775808 ≤ how) (hh2 : how ≤ 9223372036854775807) (hT : Tab11 w) (hcase : ∀ up j (_ : j < 3) k, (feedW newW (caseT up j k)).2 = caseE up k) :
    Calls Tryz.prog 4 #[.int .i64 z, .int .i64 how] w fun e w' => e = .returned (.bool true) ∧ Below w.heap.size w w' := by
  have TB := Lib.hid (fun X (h : Below w.heap.size w X) => And.intro (hT.t.below h) (hT.w.below h))
  have cM := pMade z w hz1 hz2
  have cK := fun X => Mod_is how 9 X hh1 hh2 (by omega) (by omega)
  obtain ⟨hm1, hm2⟩ := modV_at how 9 (by omega)
  obtain ⟨hh, hhh⟩ := Int.eq_ofNat_of_zero_le hm1
  rw [hhh] at cK hm2
  obtain ⟨kk, hkkk⟩ : ∃ kk, madeK z = kk := ⟨_, rfl⟩
  rw [hkkk] at cM
  obtain ⟨s1, s2, s3, s4, s5, s6⟩ := small_one kk
  have tx := text_one kk
  have tl := text_line kk
  have hval := made_val kk
  have htt : textW kk = (reqT (madeM kk) (madeT kk)).1 ++ [13, 10] ++ textL (madeL kk) ++ ([13, 10] ++ bytesW kk) := by unfold textW; simp only [List.append_assoc]
  have hE1 : (feedW newW (textW kk)).2 = eventsW kk := by rw [back_one]
  have hE2 := fun up j hj => hcase up j hj kk
  have hct : ∀ up j, caseT up j kk = (reqT (madeM kk) (madeT kk)).1 ++ [13, 10] ++ (madeL kk).flatMap (caseL up j) ++ ([13, 10] ++ bytesW kk) := by intro up j; unfold caseT; simp only [List.append_assoc]
  unfold MadePost11 at cM
  unfold eventsW at hE1
  unfold caseE at hE2
  obtain ⟨M, hM⟩ : ∃ M, madeM kk = M := ⟨_, rfl⟩
  obtain ⟨T, hTT⟩ : ∃ T, madeT kk = T := ⟨_, rfl⟩
  obtain ⟨L, hL⟩ : ∃ L, madeL kk = L := ⟨_, rfl⟩
  obtain ⟨Bo, hBo⟩ : ∃ Bo, madeB kk = Bo := ⟨_, rfl⟩
  obtain ⟨R, hR⟩ : ∃ R, [13, 10] ++ bytesW kk = R := ⟨_, rfl⟩
  obtain ⟨tt, htx⟩ : ∃ tt, textW kk = tt := ⟨_, rfl⟩
  rw [hM, hTT, hL, hR] at hct
  rw [hM, hTT, hL, hR, htx] at htt
  rw [hM, hTT, hL, hBo, htx] at hE1 tx
  rw [hM, hTT] at tl
  rw [hM, hTT, hL, hBo] at cM
  simp only [hM, hTT, hL, hBo] at hE2
  rw [hM] at s1
  rw [hTT] at s2
  rw [hBo] at s3
  rw [hL] at s4 s5 hval
  rw [htx] at s6
  have CM := Lib.hid cM
  have CK := Lib.hid cK
  have CT := Lib.hid (fun (B : Option Addr) (d : Nat) (X : World) (hX : Reads X X.heap.size 2 B L.length (fldsC L)) (htab : Tabs X) => pTextW M T Bo B L.length d L X (by omega) (by omega) (by omega) hX (by omega) (fun f hf => by have := s5 f hf; omega) htab)
  rw [tx] at CT
  simp only at CT
  have cH := fun (X : World) (htab : Tabs X) => pTextW M T [] none 0 0 [] X (by omega) (by omega) (by simp) Reads.none_ (by omega) (fun f hf => by simp at hf) htab
  rw [tl] at cH
  simp only at cH
  rw [show bs ([] : List UInt8) = ⟨#[]⟩ from rfl] at cH
  obtain ⟨H, hH⟩ : ∃ H, (reqT M T).1 ++ [13, 10] = H := ⟨_, rfl⟩
  rw [hH] at htt
  simp only [hH] at hct
  rw [show (reqT M T).1 ++ [13, 10, 13, 10] = H ++ [13, 10] by rw [← hH]; simp] at cH
  have CH := Lib.hid cH
  obtain ⟨m, hm⟩ : ∃ m, H.length = m := ⟨_, rfl⟩
  have hmm : 2 ≤ m := by rw [← hm, ← hH]; simp
  have zTh : (bs (H ++ [13, 10])).size = m + 2 := by rw [bs_size, List.length_append, hm]; rfl
  have hexH : (bs (H ++ [13, 10])).extract 0 m = bs H := ba_ext (by rw [extract_list, bs_list, bs_list, ← hm, List.take_left]; rfl)
  have hRl : 2 ≤ R.length := by rw [← hR]; simp
  have zTt : (bs tt).size = tt.length := bs_size tt
  have ltt : tt.length = m + (textL L).length + R.length := by rw [htt, List.length_append, List.length_append, hm]
  have HTT := Lib.hid htt
  have HCT := Lib.hid hct
  have HE1 := Lib.hid hE1
  have HE2 := Lib.hid hE2
  have HV := Lib.hid hval
  have HS5 := Lib.hid s5
  obtain ⟨Th, hTh⟩ : ∃ Th, bs (H ++ [13, 10]) = Th := ⟨_, rfl⟩
  obtain ⟨Tt, hTt⟩ : ∃ Tt, bs tt = Tt := ⟨_, rfl⟩
  rw [hTh] at CH zTh hexH
  rw [hTt] at CT zTt
  have HTh := Lib.hid hTt
  obtain ⟨tL, htL⟩ : ∃ tL, (textL L).length = tL := ⟨_, rfl⟩
  have HTL := Lib.hid htL
  have HMM := Lib.hid hm
  rw [htL] at ltt
  clear hcase cM cK hT hz1 hz2 hh1 hh2 hm1 hhh hkkk tx tl hval htt hE1 hE2 hct s1 s2 s3 s5 hR htx cH hH hTh hTt hM hTT hL hBo htL hm
  go_enter Tryz.func4, Tryz.ntmps4
  go_wp2_with fail
  (with_reducible refine (CM.out).mono ?_); rintro e w1 ⟨B1, d1, rfl, hr1, g1⟩
  have bY : Below w1.heap.size w1 (w1.alloc (.cells #[.string (bs M), .string (bs T)] 24)) := (Below.refl _ _).alloc (Nat.le_refl _) _
  have kY := Blk.new w1 24 #[.string (bs M), .string (bs T)]
  have RL := Lib.hid ((hr1.below bY).more bY.size)
  have G1 := Lib.hid (g1.trans (bY.mono g1.size))
  have CT1 := Lib.hid (CT.out B1 d1 _ RL.out (TB.out _ G1.out).1)
  have KY := Lib.hid kY
  clear hr1 g1 bY kY
  go_wp2_with fail
  (with_reducible refine (CT1.out).mono ?_); rintro e w2 ⟨rfl, g2⟩
  have K2 := Lib.hid (KY.out.below g2 KY.out.lt)
  have l0 : w2.cell? ⟨w1.heap.size, 0, none⟩ = some (.string (bs M)) := K2.out.cell 0
  have l1 : w2.cell? ⟨w1.heap.size, 1, none⟩ = some (.string (bs T)) := K2.out.cell 1
  have RL := Lib.hid ((RL.out.below g2).more g2.size)
  have G2 := Lib.hid (G1.out.trans (g2.mono G1.out.size))
  have CH2 := Lib.hid (CH.out w2 (TB.out _ G2.out).1)
  clear g2 KY G1 CT CT1 K2
  go_wp2_with fail
  (with_reducible refine (CK.out _).mono ?_); rintro e w3 ⟨rfl, rfl⟩
  go_wp2_with fail
  (with_reducible refine (CH2.out).mono ?_); rintro e w4 ⟨rfl, g4⟩
  have RL := Lib.hid ((RL.out.below g4).more g4.size)
  have G4 := Lib.hid (G2.out.trans (g4.mono G2.out.size))
  clear g4 G2 CH CH2 CK l0 l1
  have wm : IntKind.i64.wrap (m : Int) = (m : Int) := IntWalk.i64_in _ (by omega)
  have e0 : (((0 : Nat) : Int) != 0) = false := rfl
  have y1 : ¬ Th.size < 4 := by omega
  have y2 : ¬ Tt.size < Th.size := by omega
  obtain ⟨j, hj⟩ : ∃ j, hh / 3 = j := ⟨_, rfl⟩
  obtain ⟨r, hr⟩ : ∃ r, hh % 3 = r := ⟨_, rfl⟩
  obtain ⟨up, hup⟩ : ∃ up, decide (r = 1) = up := ⟨_, rfl⟩
  have hj3 : j < 3 := by omega
  have q3 : (hh : Int).tdiv 3 = (j : Int) := by rw [Int.tdiv_eq_ediv_of_nonneg (by omega)]; omega
  have q3' : (hh : Int) / 3 = (j : Int) := by omega
  have r3 : (hh : Int).tmod 3 = (r : Int) := by rw [Int.tmod_eq_emod_of_nonneg (by omega)]; omega
  have r3' : (hh : Int) % 3 = (r : Int) := by omega
  have wj : IntKind.i64.wrap (j : Int) = (j : Int) := IntWalk.i64_in _ (by omega)
  have wr3 : IntKind.i64.wrap (r : Int) = (r : Int) := IntWalk.i64_in _ (by omega)
  have eup : ((r : Int) == 1) = up := by
    rw [← hup]
    by_cases h : r = 1
    · subst h; rfl
    · rw [beq_eq_false_iff_ne.2 (by omega), decide_eq_false h]
  have lP1 : ∀ h : j < ([.string ⟨#[]⟩, .string ⟨#[32]⟩, .string ⟨#[9, 32, 32]⟩] : List Value).length, ([.string ⟨#[]⟩, .string ⟨#[32]⟩, .string ⟨#[9, 32, 32]⟩] : List Value)[j]'h = .string (bs (pad1 j)) := by
    intro h
    obtain h | h | h : j = 0 ∨ j = 1 ∨ j = 2 := by omega
    all_goals (subst h; rfl)
  have lP2 : ∀ h : j < ([.string ⟨#[]⟩, .string ⟨#[32, 9]⟩, .string ⟨#[32]⟩] : List Value).length, ([.string ⟨#[]⟩, .string ⟨#[32, 9]⟩, .string ⟨#[32]⟩] : List Value)[j]'h = .string (bs (pad2 j)) := by
    intro h
    obtain h | h | h : j = 0 ∨ j = 1 ∨ j = 2 := by omega
    all_goals (subst h; rfl)
  obtain ⟨P1, hP1⟩ : ∃ P1, pad1 j = P1 := ⟨_, rfl⟩
  obtain ⟨P2, hP2⟩ : ∃ P2, pad2 j = P2 := ⟨_, rfl⟩
  have HP := Lib.hid (And.intro hP1 (And.intro hP2 (pads j)))
  rw [hP1] at lP1
  rw [hP2] at lP2
  clear hj hr hup hP1 hP2
  go_upto_block 0 with (fail)
  go_cut [13, 14] (fun s v wx => s = .string (bs (H ++ L.flatMap (caseL up j))) ∧ v = .int .i64 ((m + tL : Nat) : Int) ∧ Hid (Below w4.heap.size w4 wx))
  case first =>
   as_aux_lemma =>
    go_wp2_with fail
    go_loopw [13, 14, 15] (fun s v i wr => ∃ k : Nat, i = .int .i64 k ∧ k ≤ L.length ∧ s = .string (bs (H ++ (L.take k).flatMap (caseL up j))) ∧ v = .int .i64 ((m + (textL (L.take k)).length : Nat) : Int) ∧ Hid (Below w4.heap.size w4 wr)) (fun _ _ i _ => L.length - (intOf i).toNat)
    case atStart => exact ⟨0, rfl, by omega, by simp, by simp [textL, bs_size, HMM.out], hide (Below.refl _ _)⟩
    case round =>
      obtain ⟨k, rfl, hk, rfl, rfl, hB⟩ := hrel
      rename World => wr
      by_cases hlt : k < L.length
      · obtain ⟨b, o, rfl, hb, p0, p1⟩ := (RL.out.below hB.out).fld k hlt
        have hok := HS5.out L[k] (List.getElem_mem hlt)
        have hne := HV.out L[k] (List.getElem_mem hlt)
        have hln := line_len hne
        have hs1 : (L.take (k + 1)).flatMap (caseL up j) = (L.take k).flatMap (caseL up j) ++ caseL up j L[k] := by
          rw [List.take_succ_eq_append_getElem hlt, List.flatMap_append]; simp
        have hs2 : (textL (L.take (k + 1))).length = (textL (L.take k)).length + (L[k].1.length + 2 + L[k].2.length + 2) := by
          rw [List.take_succ_eq_append_getElem hlt, textL_app, List.length_append, List.length_append, hln]; rfl
        have hl1 := case_len up j (L.take k) (fun f hf => HS5.out f (List.mem_of_mem_take hf))
        have hl2 := text_len (L.take k) (fun f hf => HS5.out f (List.mem_of_mem_take hf)) (fun f hf => HV.out f (List.mem_of_mem_take hf))
        have hlk : (L.take k).length = k := by rw [List.length_take]; omega
        rw [caseL_is, HP.out.1, HP.out.2.1] at hs1
        obtain ⟨f, hf⟩ : ∃ f, L[k] = f := ⟨_, rfl⟩
        rw [hf] at p0 p1 hok hs1 hs2
        obtain ⟨N, V⟩ := f
        simp only at p0 p1 hok hs1 hs2
        obtain ⟨Q, hQ⟩ : ∃ Q, (textL (L.take k)).length = Q := ⟨_, rfl⟩
        obtain ⟨S0, hS0⟩ : ∃ S0, (L.take k).flatMap (caseL up j) = S0 := ⟨_, rfl⟩
        rw [hQ] at hs2 hl2 ⊢
        rw [hS0] at hs1 hl1 ⊢
        have HS1 := Lib.hid hs1
        have HS2 := Lib.hid hs2
        have zN := bs_size N
        have zV := bs_size V
        obtain ⟨BN, hBN⟩ : ∃ BN, bs N = BN := ⟨_, rfl⟩
        rw [hBN] at zN p0
        have HBN := Lib.hid hBN
        have i0 : (0 : Int) ≤ (k : Int) := by omega
        have i1 : (k : Int) < (L.length : Int) := by omega
        have P0 := Lib.hid (fun X (h : Below wr.heap.size wr X) => (h.cell (p := ⟨b, o + k * 2, none⟩) (Nat.lt_of_lt_of_le hb hB.out.size)).trans p0)
        have PP1 := Lib.hid (fun X (h : Below wr.heap.size wr X) => (h.cell (p := ⟨b, o + k * 2 + 1, none⟩) (Nat.lt_of_lt_of_le hb hB.out.size)).trans p1)
        have hSl : H.length + S0.length ≤ 10000 := by rw [HMM.out]; omega
        have hQl : Q ≤ 3000 := by omega
        clear hf hln hne hs1 hs2 hl1 hl2 hlk hQ hS0 hBN p0 p1
        go_wp2_with fail
        go_loopw [16, 17] (fun nm q wq => ∃ t : Nat, q = .int .i64 t ∧ t ≤ N.length ∧ nm = .string (bs ((capL up N).take t)) ∧ Hid (Below wr.heap.size wr wq)) (fun _ q _ => N.length - (intOf q).toNat)
        case atStart => exact ⟨0, rfl, by omega, by simp; rfl, hide (Below.refl _ _)⟩
        case round =>
          obtain ⟨t, rfl, ht, rfl, hB2⟩ := hrel
          rename World => wq
          have p0 := P0.out wq hB2.out
          by_cases htl : t < N.length
          · have hbyte : ∃ x, BN[t]'(by omega) = x ∧ N[t] = x := ⟨_, rfl, by have h := HBN.out; subst h; rfl⟩
            obtain ⟨x, hx, hxN⟩ := hbyte
            have hget := capL_get up N t htl
            rw [hxN] at hget
            have hcl := capL_len up N
            have htk : (capL up N).take (t + 1) = (capL up N).take t ++ [if up then upB x else x] := by
              rw [List.take_succ_eq_append_getElem (by rw [hcl]; exact htl), hget]
            have htn : ((capL up N).take t).length ≤ 100 := by rw [List.length_take, hcl]; omega
            obtain ⟨nm, hnm⟩ : ∃ nm, (capL up N).take t = nm := ⟨_, rfl⟩
            rw [hnm] at htk htn ⊢
            obtain ⟨y, hy⟩ : ∃ y, (if up then upB x else x) = y := ⟨_, rfl⟩
            rw [hy] at htk
            have HTK := Lib.hid htk
            have hcat := bs_cat3 nm [y]
            rw [← htk] at hcat
            have zn := bs_size nm
            obtain ⟨BM, hBM⟩ : ∃ BM, bs nm = BM := ⟨_, rfl⟩
            rw [hBM] at zn hcat ⊢
            rw [show bs [y] = ⟨#[y]⟩ from rfl] at hcat
            have HCAT := Lib.hid hcat
            have hcv := fun (u : Int) (hu : u = y.toNat) => run_byte_string (P := Tryz.prog) 50 9 5 Tryz.underlying50 Tryz.underlying5 Tryz.underlying9 wq y u hu 5
            have G2 := Lib.hid (hB2.out.alloc hB2.out.size (.cells #[.int .u8 (y.toNat : Int)] 5))
            have zy : (⟨#[y]⟩ : ByteArray).size = 1 := rfl
            have zm2 : BM.size ≤ 100 := by omega
            have tk0 : (0 : Int) ≤ (t : Int) := by omega
            have xb : x.toNat < 256 := x.toNat_lt
            have HYX := Lib.hid hy
            clear hget hcl htk hnm hcat hBM hxN hy zn htn
            by_cases hu : up = true ∧ 97 ≤ x.toNat ∧ x.toNat ≤ 122
            · obtain ⟨rfl, u1, u2⟩ := hu
              have hyv : y.toNat = x.toNat - 32 := by rw [← HYX.out, if_pos rfl]; exact upB_in u1 u2
              obtain ⟨xn, hxn⟩ : ∃ xn, x.toNat = xn := ⟨_, rfl⟩
              obtain ⟨yn, hyn⟩ : ∃ yn, y.toNat = yn := ⟨_, rfl⟩
              rw [hyn] at hyv hcv G2
              rw [hxn] at u1 u2 hyv xb
              have hcv := hcv (yn : Int) rfl
              have b1 : (97 : Int) ≤ (xn : Int) := by omega
              have b2 : (xn : Int) ≤ 122 := by omega
              have k1 : IntKind.u8.wrap ((xn : Int) - 97) = (xn : Int) - 97 := IntWalk.u8_in _ (by omega)
              have k2 : IntKind.u8.wrap ((xn : Int) - 97 + 65) = (yn : Int) := by rw [show (xn : Int) - 97 + 65 = (yn : Int) by omega]; exact IntWalk.u8_in _ (by omega)
              clear hyv hyn
              go_wp2_with fail
              go_roundw
              case rel => exact ⟨t + 1, by go_num, by omega, by rw [HCAT.out], G2⟩
              case measure => simp [intOf]; omega
            · have hyx : y = x := by
                rw [← HYX.out]
                split
                · rename_i h; exact upB_out (fun e => hu ⟨h, e⟩)
                · rfl
              subst hyx
              obtain ⟨xn, hxn⟩ : ∃ xn, y.toNat = xn := ⟨_, rfl⟩
              rw [hxn] at hu hcv G2 xb
              have hcv := hcv (xn : Int) rfl
              have hcase : up = false ∨ (up = true ∧ ¬ (97 : Int) ≤ (xn : Int)) ∨ (up = true ∧ (97 : Int) ≤ (xn : Int) ∧ ¬ (xn : Int) ≤ 122) := by
                cases up
                · exact .inl rfl
                · by_cases h97 : 97 ≤ xn
                  · exact .inr (.inr ⟨rfl, by omega, fun e => hu ⟨rfl, h97, by omega⟩⟩)
                  · exact .inr (.inl ⟨rfl, by omega⟩)
              clear hu
              rcases hcase with rfl | ⟨rfl, b1⟩ | ⟨rfl, b1, b2⟩
              all_goals
                go_wp2_with fail
                go_roundw
                case rel => exact ⟨t + 1, by go_num, by omega, by rw [HCAT.out], G2⟩
                case measure => simp [intOf]; omega
          · obtain rfl : t = N.length := by omega
            have hd2 : decide ((N.length : Int) < (N.length : Int)) = false := by simp
            have hcl := capL_len up N
            have hNM : (capL up N).take N.length = capL up N := by rw [← hcl, List.take_length]
            rw [hNM]
            have hc6 := cat6 (H ++ S0) (capL up N) P1 V P2
            rw [List.append_assoc H, ← HS1.out] at hc6
            obtain ⟨T0, hT0⟩ : ∃ T0, bs (H ++ S0) = T0 := ⟨_, rfl⟩
            obtain ⟨TN, hTN⟩ : ∃ TN, bs (capL up N) = TN := ⟨_, rfl⟩
            have zT0 : T0.size ≤ 10000 := by rw [← hT0, bs_size, List.length_append]; exact hSl
            have zTN : TN.size ≤ 100 := by rw [← hTN, bs_size, hcl]; exact hok.1
            have zP1 : (bs P1).size ≤ 3 := by rw [bs_size, ← HP.out.1]; exact HP.out.2.2.1
            have zP2 : (bs P2).size ≤ 2 := by rw [bs_size, ← HP.out.2.1]; exact HP.out.2.2.2
            have zVV : (bs V).size ≤ 100 := by rw [bs_size]; exact hok.2
            rw [hT0, hTN] at hc6
            rw [hT0, hTN]
            obtain ⟨B1s, hB1s⟩ : ∃ B1s, bs P1 = B1s := ⟨_, rfl⟩
            obtain ⟨B2s, hB2s⟩ : ∃ B2s, bs P2 = B2s := ⟨_, rfl⟩
            obtain ⟨BV, hBV⟩ : ∃ BV, bs V = BV := ⟨_, rfl⟩
            have PV := PP1
            rw [hBV] at zV zVV PV hc6
            rw [hB1s] at zP1 hc6 lP1
            rw [hB2s] at zP2 hc6 lP2
            have HC6 := Lib.hid hc6
            have p1 := PV.out wq hB2.out
            have p1a : ∀ o1, (wq.alloc o1).cell? ⟨b, o + k * 2 + 1, none⟩ = some (.string BV) := fun o1 => PV.out _ (hB2.out.alloc hB2.out.size o1)
            have p1b : ∀ o1 o2, ((wq.alloc o1).alloc o2).cell? ⟨b, o + k * 2 + 1, none⟩ = some (.string BV) := fun o1 o2 => PV.out _ ((hB2.out.alloc hB2.out.size o1).alloc (Nat.le_trans hB2.out.size (by simp)) o2)
            have jj0 : (0 : Int) ≤ (j : Int) := by omega
            have jj3 : (j : Int) < 3 := by omega
            clear htl ht hcl hNM hT0 hTN hc6 hB1s hB2s hBV hSl
            go_upto_region 20 with (fail)
            go_cut [13] (fun v wx => v = .string (bs (H ++ (L.take (k + 1)).flatMap (caseL up j))) ∧ Hid (Below wr.heap.size wr wx))
            case first =>
             as_aux_lemma =>
              go_big_region
              all_goals
                (go_wp2_with fail
                 go_meet
                 refine ⟨by rw [HC6.out], hide ?_⟩
                 repeat (first | exact hB2.out | refine below_drew' ?_ | refine Below.alloc ?_ (by have := hB2.out.size; simp <;> omega) _))
            case rest =>
             as_aux_lemma =>
              obtain ⟨rfl, hB3⟩ := hcut
              rename World => wx
              have p0 := P0.out wx hB3.out
              have p1 := PV.out wx hB3.out
              clear p1a p1b
              obtain ⟨mq, hmq⟩ : ∃ mq, m + Q = mq := ⟨_, rfl⟩
              have HMQ := Lib.hid hmq
              have mqs : (m : Int) + (Q : Int) = (mq : Int) := by omega
              have a0 : IntKind.i64.wrap ((mq : Int) + (N.length : Int)) = (mq : Int) + (N.length : Int) := IntWalk.i64_in _ (by omega)
              have a1 : IntKind.i64.wrap ((mq : Int) + (N.length : Int) + 2) = (mq : Int) + (N.length : Int) + 2 := IntWalk.i64_in _ (by omega)
              have a2 : IntKind.i64.wrap ((mq : Int) + (N.length : Int) + 2 + (V.length : Int)) = (mq : Int) + (N.length : Int) + 2 + (V.length : Int) := IntWalk.i64_in _ (by omega)
              have a3 : IntKind.i64.wrap ((mq : Int) + (N.length : Int) + 2 + (V.length : Int) + 2) = (mq : Int) + (N.length : Int) + 2 + (V.length : Int) + 2 := IntWalk.i64_in _ (by omega)
              have GG := Lib.hid (hB.out.trans (hB3.out.mono hB.out.size))
              clear hmq
              go_upto_region 21 with (fail)
              go_quiet (fail)
              go_wp2_with fail
              go_roundw
              case rel => exact ⟨k + 1, by go_num, by omega, rfl, by rw [HS2.out]; simp only [Value.int.injEq, true_and]; have := HMQ.out; omega, hide (below_drewN GG.out _)⟩
              case measure => simp [intOf]; omega
      · obtain rfl : k = L.length := by omega
        have hd : decide ((L.length : Int) < (L.length : Int)) = false := by simp
        have HFL := Lib.hid (show L.take L.length = L from List.take_length)
        clear hlt hk
        go_wp2_with fail
        go_meet
        exact ⟨by rw [HFL.out], by rw [HFL.out, HTL.out], hB⟩
  case rest =>
   as_aux_lemma =>
    obtain ⟨rfl, rfl, hB⟩ := hcut
    rename World => w5
    obtain ⟨rs, hrs⟩ : ∃ rs, m + tL = rs := ⟨_, rfl⟩
    rw [hrs]
    have G5 := Lib.hid (G4.out.trans (hB.out.mono G4.out.size))
    have RL := Lib.hid ((RL.out.below hB.out).more hB.out.size)
    have hcl := case_len up j L HS5.out
    have hct := HCT.out up j
    have he2 := HE2.out up j hj3
    have hlen2 : (caseT up j kk).length ≤ 20000 := by
      rw [hct, List.length_append, List.length_append, HMM.out]; omega
    have hexT : Tt.extract rs Tt.size = bs R := by
      apply ba_ext
      rw [← HTh.out, extract_list, bs_list, bs_list, bs_size, List.take_length, HTT.out]
      exact List.drop_left' (by rw [List.length_append, HMM.out, HTL.out]; exact hrs)
    have hcat := bs_cat3 (H ++ L.flatMap (caseL up j)) R
    rw [← hct] at hcat
    have cA := pAllW tt w5 (by omega) (TB.out _ G5.out).2
    rw [HE1.out, HTh.out] at cA
    have cB := fun X (hX : Below w.heap.size w X) => pAllW (caseT up j kk) X hlen2 (TB.out _ hX).2
    rw [he2] at cB
    obtain ⟨L2, hL2⟩ : ∃ L2, (L.map fun f => (if up = true then f.1.map upB else f.1, f.2)) = L2 := ⟨_, rfl⟩
    have hL2l : L2.length = L.length := by rw [← hL2, List.length_map]
    have hL2g : ∀ k (h : k < L.length) (h2 : k < L2.length), L2[k] = (capL up L[k].1, L[k].2) := by
      intro k h h2
      subst hL2
      simp [capL]
    rw [hL2] at cB
    unfold AllPostW at cA cB
    have CA := Lib.hid cA
    have zS1 : (bs (H ++ L.flatMap (caseL up j))).size ≤ 19000 := by rw [bs_size, List.length_append, HMM.out]; omega
    have zR : (bs R).size ≤ 1000 := by rw [bs_size]; omega
    obtain ⟨S1, hS1⟩ : ∃ S1, bs (H ++ L.flatMap (caseL up j)) = S1 := ⟨_, rfl⟩
    obtain ⟨BR, hBR⟩ : ∃ BR, bs R = BR := ⟨_, rfl⟩
    obtain ⟨S2, hS2⟩ : ∃ S2, bs (caseT up j kk) = S2 := ⟨_, rfl⟩
    rw [hS1] at zS1 hcat
    rw [hBR] at zR hcat hexT
    rw [hS2] at hcat cB
    rw [hS1]
    have CB := Lib.hid cB
    have HG := Lib.hid (And.intro hL2l hL2g)
    have v1 : rs ≤ Tt.size := by omega
    have v2 : ¬ Tt.size < rs := by omega
    have v3 : ¬ (Tt.size : Int) < (rs : Int) := by omega
    have v4 : (0 : Int) ≤ (rs : Int) := by omega
    have v5 : (rs : Int) ≤ (Tt.size : Int) := by omega
    have e0 : (((0 : Nat) : Int) != 0) = false := rfl
    clear hrs hcl hct he2 hlen2 cA cB hL2 hL2l hL2g hS1 hBR hS2 hB lP1 lP2 q3 q3' r3 r3' wj wr3 eup zTh hexH y1 y2 wm ltt zTt
    go_wp2_with fail
    (with_reducible refine (CA.out).mono ?_); rintro e w6 ⟨O1, oc1, X, rfl, hX, hRX, hHX, g6⟩
    have G6 := Lib.hid (G5.out.trans (g6.mono G5.out.size))
    have RL := Lib.hid ((RL.out.below g6).more g6.size)
    obtain ⟨x1, x2, x3, rfl, hx3⟩ : ∃ x1 x2 x3, X = [x1, x2, x3] ∧ x3.1 = ⟨3, M, T, L, Bo, 0⟩ := by
      match X, hX with
      | [], h => simp at h
      | [_], h => simp at h
      | [_, _], h => simp at h
      | [a, b, c], h => simp at h; exact ⟨a, b, c, rfl, h.2.2⟩
      | _ :: _ :: _ :: _ :: _, h => simp at h
    have HRX := Lib.hid hRX
    have HHX := Lib.hid hHX
    have CB6 := Lib.hid (CB.out w6 G6.out)
    clear hX hRX hHX g6 CA CB
    go_wp2_with fail
    (with_reducible refine (CB6.out).mono ?_); rintro e w7 ⟨O2, oc2, Y, rfl, hY, hRY, hHY, g7⟩
    have G7 := Lib.hid (G6.out.trans (g7.mono G6.out.size))
    have RL := Lib.hid ((RL.out.below g7).more g7.size)
    obtain ⟨z1, z2, z3, rfl, hz3⟩ : ∃ x1 x2 x3, Y = [x1, x2, x3] ∧ x3.1 = ⟨3, M, T, L2, Bo, 0⟩ := by
      match Y, hY with
      | [], h => simp at h
      | [_], h => simp at h
      | [_, _], h => simp at h
      | [a, b, c], h => simp at h; exact ⟨a, b, c, rfl, h.2.2⟩
      | _ :: _ :: _ :: _ :: _, h => simp at h
    obtain ⟨x3, A3, c3⟩ := x3
    obtain ⟨z3, A4, c4⟩ := z3
    simp only at hx3 hz3
    subst hx3 hz3
    have hF := ((HHX.out.reads 2 (by simp)).below g7).more g7.size
    have hE := hHY.reads 2 (by simp)
    obtain ⟨b, o, rfl, hb, q0, q1, q2, q3, q4, q5⟩ := ((HRX.out.below g7).more g7.size).ev 2 (by simp)
    obtain ⟨b', o', rfl, hb', r0, r1, r2, r3, r4, r5⟩ := hRY.ev 2 (by simp)
    simp only [List.getElem_cons_succ, List.getElem_cons_zero] at q0 q1 q2 q3 q4 q5 r0 r1 r2 r3 r4 r5 hF hE
    rw [HG.out.1] at r3
    have hF := Lib.hid (show Reads w7 w7.heap.size 2 A3 L.length (fldsC L) from hF)
    have hE := Lib.hid (show Reads w7 w7.heap.size 2 A4 L2.length (fldsC L2) from hE)
    have ql := neReqL (bs M) (bs T)
    have e3 : ((bs Bo).toList == (bs Bo).toList) = true := by simp
    have e4 : ((bs Bo).toList != (bs Bo).toList) = false := by simp
    have e5 : ((L.length : Int) != (L.length : Int)) = false := by simp
    have Q3 := Lib.hid (fun X (h : Below w7.heap.size w7 X) => (h.cell (p := ⟨b, o + 2 * 6 + 3, none⟩) hb).trans q3)
    have R3 := Lib.hid (fun X (h : Below w7.heap.size w7 X) => (h.cell (p := ⟨b', o' + 2 * 6 + 3, none⟩) hb').trans r3)
    have q1 : w7.cell? ⟨b, o + 13, none⟩ = some (.string (bs M)) := q1
    have q2 : w7.cell? ⟨b, o + 14, none⟩ = some (.string (bs T)) := q2
    have q3 : w7.cell? ⟨b, o + 15, none⟩ = some (.slice A3 L.length c3) := q3
    have q4 : w7.cell? ⟨b, o + 16, none⟩ = some (.string (bs Bo)) := q4
    have r1 : w7.cell? ⟨b', o' + 13, none⟩ = some (.string (bs M)) := r1
    have r2 : w7.cell? ⟨b', o' + 14, none⟩ = some (.string (bs T)) := r2
    have r3 : w7.cell? ⟨b', o' + 15, none⟩ = some (.slice A4 L.length c4) := r3
    have r4 : w7.cell? ⟨b', o' + 16, none⟩ = some (.string (bs Bo)) := r4
    have i0 : (0 : Int) ≤ 2 := by decide
    have i2 : (2 : Int) < 3 := by decide
    clear hY hRY hHY g7 HRX HHX CB6 q0 q5 r0 r5 hb hb'
    go_wp2_with fail
    go_quiet (fail)
    go_wp2_with fail
    go_loopw [21] (fun i wr => ∃ k : Nat, i = .int .i64 k ∧ k ≤ L.length ∧ Hid (Below w7.heap.size w7 wr)) (fun i _ => L.length - (intOf i).toNat)
    case atStart => exact ⟨0, rfl, by omega, hide (below_drewN (Below.refl _ _) _)⟩
    case round =>
      obtain ⟨k, rfl, hk, hB⟩ := hrel
      rename World => wr
      have q3 : wr.cell? ⟨b, o + 15, none⟩ = some (.slice A3 L.length c3) := Q3.out wr hB.out
      have r3 : wr.cell? ⟨b', o' + 15, none⟩ = some (.slice A4 L.length c4) := R3.out wr hB.out
      by_cases hlt : k < L.length
      · have hg := HG.out.2 k hlt (by rw [HG.out.1]; exact hlt)
        obtain ⟨b3, o3, rfl, _, p0, p1⟩ := (hF.out.below hB.out).fld k hlt
        obtain ⟨b4, o4, rfl, _, n0, n1⟩ := (hE.out.below hB.out).fld k (by rw [HG.out.1]; exact hlt)
        rw [hg] at n0 n1
        have hok := HS5.out L[k] (List.getElem_mem hlt)
        have hcl := capL_len up L[k].1
        generalize L[k] = f at p0 p1 n0 n1 hg hok hcl
        obtain ⟨N, V⟩ := f
        simp only at p0 p1 n0 n1 hok hcl
        have zN := bs_size N
        have zC := bs_size (capL up N)
        rw [hcl] at zC
        have i0 : (0 : Int) ≤ (k : Int) := by omega
        have i1 : (k : Int) < (L.length : Int) := by omega
        have e6 : ((bs V).toList == (bs V).toList) = true := by simp
        have e7 : ((bs V).toList != (bs V).toList) = false := by simp
        have e8 : ((N.length : Int) != (N.length : Int)) = false := by simp
        clear hg hok hcl
        go_wp2_with fail
        go_quiet (fail)
        go_wp2_with fail
        go_roundw
        case rel => exact ⟨k + 1, by go_num, by omega, hide (below_drewN hB.out _)⟩
        case measure => simp [intOf]; omega
      · obtain rfl : k = L.length := by omega
        have hd : decide ((L.length : Int) < (L.length : Int)) = false := by simp
        have G8 := Lib.hid (G7.out.trans (hB.out.mono G7.out.size))
        have AW := Lib.hid (awake11 wr (TB.out _ G8.out).2)
        go_wp2_with fail
        (with_reducible refine (AW.out).mono ?_); rintro e w9 ⟨rfl, g9⟩
        go_wp2_with fail
        go_ret
        exact ⟨rfl, G8.out.trans (g9.mono G8.out.size)⟩
end Go.Proofs.YtencphfhpnljlaaGreatDoor
