/-
  NumberLists: a list of equal numbers, whatever blanks and zeros there are, is this number, and one with another number is none. The walk of the statement's function, for every uint64 and list of ints.
-/
import Derived.Test.YtjdapggdajkphaaDoorNumListsP
import Derived.Outline
import Derived.BigRegion
import Derived.Deep.DeepCutAuto
import Derived.Deep.CutBlock
namespace Go.Proofs.YtjdapggdajkphaaDoor
open Go.RowKit

theorem sz_mk (a : Array UInt8) : (⟨a⟩ : ByteArray).size = a.size := rfl
theorem ex_zeros (c : Nat) : ((⟨#[48, 48, 48]⟩ : ByteArray).extract 0 c).size ≤ 3 := by
  rw [ByteArray.size_extract, sz_mk]; simp; omega
def bl1 : Nat → List UInt8
  | 0 => []
  | 1 => [32]
  | _ => [9, 32]
def bl2 : Nat → List UInt8
  | 0 => []
  | 1 => [32]
  | _ => [32, 9]
theorem bl1_b (a : Nat) : ∀ b ∈ bl1 a, isB b = true := by
  unfold bl1; split <;> simp [isB]
theorem bl2_b (a : Nat) : ∀ b ∈ bl2 a, isB b = true := by
  unfold bl2; split <;> simp [isB]
theorem nine_digs (y : Nat) (h : y < 27) : ∃ a b c : Nat, (a = 0 ∨ a = 1 ∨ a = 2) ∧ (b = 0 ∨ b = 1 ∨ b = 2) ∧ (c = 0 ∨ c = 1 ∨ c = 2) ∧ y = a + 3 * b + 9 * c :=
  ⟨y % 3, y / 3 % 3, y / 9, by omega, by omega, by omega, by omega⟩

def IsDec (n : Nat) (S : List UInt8) : Prop := (∀ b ∈ S, dvN false b.toNat < 16) ∧ valA false 0 S = n ∧ S ≠ [] ∧ S.length ≤ 20
theorem same_list (n most : Nat) (S L : List UInt8) (hd : IsDec n S) (hI : ListInv S L) (hn : n < 18446744073709551616) (hm : n ≤ most) : sameR ((splitC 44 L).map trimL) 30 most = (n, 0) :=
  sameR_all _ n most (by simp [splitC_ne]) fun x hx => by
    obtain ⟨y, hy, rfl⟩ := List.mem_map.1 hx
    exact (hI.pieces y hy).reads n most hd.1 hd.2.2.1 hd.2.1 hd.2.2.2 hn hm
theorem same_other (n o most : Nat) (S L O : List UInt8) (hd : IsDec n S) (hI : ListInv S L) (ho : IsDec o O) (hn : n < 18446744073709551616) (hm : n ≤ most) (hon : o < 18446744073709551616) (hom : o ≤ most) (hne : o ≠ n) : (sameR ((splitC 44 (L ++ 44 :: O)).map trimL) 30 most).2 = 7 := by
  rw [splitC_comma, splitC_none 44 O (fun b hb => digit_noC b (ho.1 b hb)), List.map_append]
  have hp : Piece O O := ⟨[], [], 0, by simp, by simp, by simp, by omega⟩
  refine sameR_other _ (trimL O) n o most (by simp [splitC_ne]) (fun x hx => ?_) (hp.reads o most ho.1 ho.2.2.1 ho.2.1 ho.2.2.2 hon hom) hne
  obtain ⟨y, hy, rfl⟩ := List.mem_map.1 hx
  exact (hI.pieces y hy).reads n most hd.1 hd.2.2.1 hd.2.1 hd.2.2.2 hn hm
theorem isDec (n : Nat) (h : n < 18446744073709551616) : IsDec n (Lib.decDigits n) := ⟨(dec_facts n).1, (dec_facts n).2.1, (dec_facts n).2.2, decDigits_le n h⟩
theorem Same_list (n most : Nat) (S L : ByteArray) (hd : IsDec n S.data.toList) (hI : ListInv S.data.toList L.data.toList) (hn : n < 18446744073709551616) (hm : n ≤ most) (hL : L.size ≤ 1000000) (w : World) (htab : Tabs2 w) :
    Calls Tryd.prog 25 #[.string L, .int .i64 30, .int .u64 most] w fun e w' => e = .returned (.tuple #[.int .u64 n, .int .i64 0]) ∧ Below w.heap.size w w' := by
  have h := Same_any L 30 most w hL htab
  rw [same_list n most _ _ hd hI hn hm] at h
  exact h
theorem Same_other (n o : Nat) (S L O : ByteArray) (hd : IsDec n S.data.toList) (hI : ListInv S.data.toList L.data.toList) (ho : IsDec o O.data.toList) (hn : n < 18446744073709551616) (hon : o < 18446744073709551616) (hne : o ≠ n) (hL : L.size ≤ 100000) (w : World) (htab : Tabs2 w) :
    Calls Tryd.prog 25 #[.string (L ++ ⟨#[44]⟩ ++ O), .int .i64 30, .int .u64 18446744073709551615] w fun e w' => ∃ x : Nat, e = .returned (.tuple #[.int .u64 x, .int .i64 7]) ∧ Below w.heap.size w w' := by
  have hs : O.size ≤ 20 := by rw [← size_l]; exact ho.2.2.2
  have h := Same_any (L ++ ⟨#[44]⟩ ++ O) 30 18446744073709551615 w (by simp only [ByteArray.size_append, sz_mk, List.size_toArray, List.length_cons, List.length_nil]; omega) htab
  have e : (L ++ ⟨#[44]⟩ ++ O).data.toList = L.data.toList ++ 44 :: O.data.toList := by simp
  rw [e] at h
  have h7 := same_other n o 18446744073709551615 _ _ _ hd hI ho hn (by omega) hon (by omega) hne
  refine h.mono ?_
  rintro e w1 ⟨rfl, hb⟩
  rw [h7]
  exact ⟨_, rfl, hb⟩
set_option maxRecDepth 100000 in
set_option maxHeartbeats 40000000 in
theorem NumberLists_true (n : Nat) (A : Option Addr) (len c : Nat) (zs : List Int) (w : World) (hn : n < 18446744073709551616) (hr : Reads w w.heap.size 1 A len (zs.map (Value.int .i64))) (hz : ∀ z ∈ zs, -9223372036854775808 ≤ z ∧ z ≤ 9223372036854775807) (hlen : len ≤ 9223372036854775807) (htab : Tabs2 w) :
    Calls Tryd.prog 7 #[.int .u64 n, .slice A len c] w fun r w' => r = .returned (.bool true) ∧ Below w.heap.size w w' := by
  obtain ⟨d1, d2, d3⟩ := dec_facts n
  have dl := decDigits_le n hn
  have cD := DecText_any n hn
  obtain ⟨ds, hds⟩ : ∃ ds : ByteArray, (⟨(Lib.decDigits n).toArray⟩ : ByteArray) = ds := ⟨_, rfl⟩
  have eds : Lib.decDigits n = ds.data.toList := by rw [← hds]
  simp only [hds] at cD
  rw [eds] at d1 d2 d3 dl
  have dsz : ds.size ≤ 20 := by rw [← size_l]; exact dl
  have CD := Lib.hid cD
  have D := Lib.hid (And.intro d1 (And.intro d2 (And.intro d3 dl)))
  have HRD := Lib.hid hr
  have HZ := Lib.hid hz
  clear cD d1 d2 d3 dl eds hds hr hz
  go_enter Tryd.func7, Tryd.ntmps7
  go_wp2_with fail
  (with_reducible refine (CD.out _ htab.tabs).mono ?_); rintro e w1 ⟨rfl, hb1⟩
  go_wp2_with fail
  go_loopw [6, 7, 8] (fun l i _ wr => ∃ (k : Nat) (L : ByteArray), l = .string L ∧ i = .int .i64 k ∧ k ≤ len ∧ k ≤ 10 ∧ L.size ≤ 30 + 40 * k ∧ Hid (ListInv ds.data.toList L.data.toList) ∧ Below w.heap.size w wr) (fun _ i _ _ => 10 - (intOf i).toNat)
  case atStart => exact ⟨0, ds, rfl, rfl, by omega, by omega, by omega, ListInv.start _ D.out.1, hb1⟩
  case round =>
    obtain ⟨k, L, rfl, rfl, hk, hk10, hL, HI, hb⟩ := hrel
    rename World => W0
    by_cases hlt : k < len ∧ k < 10
    · obtain ⟨h1, h2⟩ := hlt
      obtain ⟨ad, u, hA, hadb, hx, hc⟩ := HRD.out.at_ h1
      subst hA
      have hzl : k < zs.length := by have := (List.getElem?_eq_some_iff.1 hx).1; simpa using this
      have hu : u = .int .i64 zs[k] := by rw [List.getElem?_map, List.getElem?_eq_getElem hzl] at hx; simpa using hx.symm
      subst hu
      have hcell : W0.cell? (ad.add k) = some (.int .i64 zs[k]) := by
        rw [hb.cell (by rw [block_of_add]; exact hadb)]; exact hc
      obtain ⟨z, hz⟩ : ∃ z, zs[k] = z := ⟨_, rfl⟩
      have hzr := HZ.out zs[k] (List.getElem_mem hzl)
      rw [hz] at hcell hzr
      obtain ⟨y, hy⟩ : ∃ y : Nat, z % 27 = (y : Int) := ⟨(z % 27).toNat, by have := Int.emod_nonneg z (show (27 : Int) ≠ 0 by omega); omega⟩
      have hy27 : y < 27 := by have := Int.emod_lt_of_pos z (show (0 : Int) < 27 by omega); omega
      have cM : ∀ w, Calls Tryd.prog 9 #[.int .i64 z, .int .i64 27] w fun e w' => e = .returned (.int .i64 y) ∧ w = w' := fun w => by
        have := Mod_any z 27 w hzr.1 hzr.2 (by omega) (by omega)
        rw [hy] at this
        exact this
      have CM := Lib.hid cM
      clear cM hy hz hzr hx hc
      go_upto_block 1 with (fail)
      go_cut [6, 8] (fun l _ wx => ∃ L' : ByteArray, l = .string L' ∧ L'.size ≤ L.size + 40 ∧ Hid (ListInv ds.data.toList L'.data.toList) ∧ Below w.heap.size w wx)
      case first =>
        go_wp2_with fail
        (with_reducible refine (CM.out _).mono ?_); rintro r w' ⟨rfl, rfl⟩
        go_wp2_with fail
        have HS : ∀ a b c : Nat, c ≤ 2 → Hid (ListInv ds.data.toList (L.data.toList ++ bl1 a ++ 44 :: (bl2 b ++ (List.replicate c 48 ++ ds.data.toList)))) := fun a b c hc => HI.out.step D.out.1 _ _ _ (bl1_b a) (bl2_b b) hc
        have hsz := D.out.2.2.2
        rw [size_l] at hsz
        obtain ⟨a, b, c, ha, hb3, hc3, hy⟩ := nine_digs y hy27
        have H := HS a b c (by omega)
        clear HS
        rcases ha with rfl | rfl | rfl <;> rcases hb3 with rfl | rfl | rfl <;> rcases hc3 with rfl | rfl | rfl <;> simp only [Nat.reduceMul, Nat.reduceAdd] at hy <;> subst hy <;> (
          go_region
          all_goals (
            go_wp2_with fail
            go_meet
            have hz1 := ex_zeros 1; have hz2 := ex_zeros 2
            refine ⟨_, rfl, ?_, ?_, ?_⟩
            · simp only [ByteArray.size_append, sz_mk, List.size_toArray, List.length_cons, List.length_nil]; omega
            · refine hide ?_; have h := H.out; simpa [bl1, bl2] using h
            · exact Below.drew (Below.alloc (Below.alloc hb hb.size _) (Below.alloc hb hb.size _).size _)))
      case rest =>
        obtain ⟨L', rfl, hL', HI', hb'⟩ := hcut
        go_wp2_with fail
        go_roundw
        case rel => exact ⟨k + 1, L', rfl, by go_num, by omega, by omega, by omega, HI', hb'⟩
        case measure => simp [intOf]; omega
    · have cD2 : ∀ (o : Nat) (z : Int), z = o → o < 18446744073709551616 → ∃ O : ByteArray, IsDec o O.data.toList ∧ ∀ w1, Tabs w1 → Calls Tryd.prog 10 #[.int .u64 z] w1 fun e w' => e = .returned (.string O) ∧ Below w1.heap.size w1 w' := fun o z hz ho => ⟨⟨(Lib.decDigits o).toArray⟩, isDec o ho, fun w1 ht => by subst hz; exact DecText_any o ho w1 ht⟩
      have cS := fun w1 ht => Same_list n n ds L D.out HI.out hn (Nat.le_refl _) (by omega) w1 ht
      have cS0 := fun w1 ht => Same_list n n ds ds D.out (ListInv.start _ D.out.1) hn (Nat.le_refl _) (by have := D.out.2.2.2; rw [size_l] at this; omega) w1 ht
      have cO := fun (o : Nat) (O : ByteArray) h1 h2 h3 w1 ht => Same_other n o ds L O D.out HI.out h1 hn h2 h3 (by omega) w1 ht
      have AW := Lib.hid awake_true
      have CD2 := Lib.hid cD2
      have CS := Lib.hid cS
      have CS0 := Lib.hid cS0
      have CO := Lib.hid cO
      clear cD2 cS cS0 cO CD HZ HRD
      have rest : k < len ∧ 10 ≤ k ∨ len ≤ k := by omega
      rcases rest with ⟨hk1, hk2⟩ | hk1
      all_goals (
        try have hd1 : decide ((k : Int) < (len : Int)) = false := by simp; omega
        try have hd2 : decide ((k : Int) < 10) = false := by simp; omega
        go_wp2_with fail
        (with_reducible refine (CS.out _ (htab.below hb)).mono ?_); rintro e w2 ⟨rfl, hb2⟩
        have hb2' := hb.trans (hb2.mono hb.size)
        by_cases hmx : n = 18446744073709551615
        case pos =>
          obtain ⟨O, hO, cO⟩ := CD2.out 0 0 rfl (by omega)
          have hne : (0 : Nat) ≠ n := by omega
          have hO20 : O.size ≤ 20 := by have := hO.2.2.2; rw [size_l] at this; exact this
          have CDO := Lib.hid cO
          have HO := Lib.hid hO
          clear cO hO
          have hbm : ((n : Int) == 18446744073709551615) = true := by rw [beq_iff_eq]; omega
          clear hmx
          go_wp2_with fail
          (with_reducible refine (CDO.out _ (htab.below hb2').tabs).mono ?_); rintro e w3 ⟨rfl, hb3⟩
          have hb3' := hb2'.trans (hb3.mono hb2'.size)
          go_wp2_with fail
          (with_reducible refine (CO.out 0 O HO.out (by omega) hne _ (htab.below hb3')).mono ?_); rintro e w4 ⟨x, rfl, hb4⟩
          have hb4' := hb3'.trans (hb4.mono hb3'.size)
          go_wp2_with fail
          (with_reducible refine (CS0.out _ (htab.below hb4')).mono ?_); rintro e w5 ⟨rfl, hb5⟩
          have hb5' := hb4'.trans (hb5.mono hb4'.size)
          go_wp2_with fail
          (with_reducible refine (AW.out _ (htab.below hb5').tabs).mono ?_); rintro e w6 ⟨rfl, hb6⟩
          have hb6' := hb5'.trans (hb6.mono hb5'.size)
          go_wp2_with fail
          go_ret
          exact ⟨rfl, hb6'⟩
        case neg =>
          obtain ⟨O, hO, cO⟩ := CD2.out (n + 1) ((n : Int) + 1) (by omega) (by omega)
          have hne : n + 1 ≠ n := by omega
          have hO20 : O.size ≤ 20 := by have := hO.2.2.2; rw [size_l] at this; exact this
          have CDO := Lib.hid cO
          have HO := Lib.hid hO
          clear cO hO
          have hbm : ((n : Int) == 18446744073709551615) = false := by rw [beq_eq_false_iff_ne]; omega
          go_wp2_with fail
          (with_reducible refine (CDO.out _ (htab.below hb2').tabs).mono ?_); rintro e w3 ⟨rfl, hb3⟩
          have hb3' := hb2'.trans (hb3.mono hb2'.size)
          go_wp2_with fail
          (with_reducible refine (CO.out (n + 1) O HO.out (by omega) hne _ (htab.below hb3')).mono ?_); rintro e w4 ⟨x, rfl, hb4⟩
          have hb4' := hb3'.trans (hb4.mono hb3'.size)
          go_wp2_with fail
          (with_reducible refine (CS0.out _ (htab.below hb4')).mono ?_); rintro e w5 ⟨rfl, hb5⟩
          have hb5' := hb4'.trans (hb5.mono hb4'.size)
          go_wp2_with fail
          (with_reducible refine (AW.out _ (htab.below hb5').tabs).mono ?_); rintro e w6 ⟨rfl, hb6⟩
          have hb6' := hb5'.trans (hb6.mono hb5'.size)
          go_wp2_with fail
          go_ret
          exact ⟨rfl, hb6'⟩)
end Go.Proofs.YtjdapggdajkphaaDoor
