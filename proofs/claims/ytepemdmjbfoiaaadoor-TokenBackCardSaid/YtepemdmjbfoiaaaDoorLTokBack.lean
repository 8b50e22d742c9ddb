/-
  TokenBack holds at any list of numbers.
-/
import Derived.Test.YtepemdmjbfoiaaaDoorTokBackQ
import Derived.Test.YtepemdmjbfoiaaaDoorLTokKnown
import Derived.Test.YtepemdmjbfoiaaaDoorKt2
import Derived.Test.YtepemdmjbfoiaaaDoorOw
import Derived.Deep.RegionHeld3
namespace Go.Proofs.YtepemdmjbfoiaaaDoor
open Go.RowKit

def lettersB : ByteArray := ⟨#[97, 98, 88, 89, 57, 45, 46, 95, 126, 33]⟩
theorem letters_at (k : Nat) (h : k < 10) : ∃ c, lettersB.extract k (k + 1) = bs [c] ∧ tokB c = true := by
  have hl : lettersB.data.toList.length = 10 := rfl
  have ht : ∀ k : Fin 10, tokB (lettersB.data.toList.getD k.val 0) = true := by decide +kernel
  have hk : k < lettersB.data.toList.length := by rw [hl]; exact h
  refine ⟨lettersB.data.toList[k], ?_, ?_⟩
  · refine ba_ext ?_
    rw [extract_list, List.take_succ_eq_append_getElem hk, List.drop_append_of_le_length (by rw [List.length_take]; omega), List.drop_of_length_le (by rw [List.length_take]; omega), bs_list]
    rfl
  · have := ht ⟨k, h⟩
    rwa [List.getD_eq_getElem?_getD, List.getElem?_eq_getElem hk] at this

/-- tokens made of numbers -/
def madeOk (xs : List (List UInt8)) : Prop := xs.length ≤ 12 ∧ (∀ y ∈ xs, y.length ≤ 6) ∧ ∀ y ∈ xs, isTok y = true
def MadePost (w : World) (e : Ending) (w' : World) : Prop :=
  ∃ A cap xs, e = .returned (.slice A xs.length cap) ∧ xs.length ≤ cap ∧ madeOk xs ∧ Reads w' w'.heap.size 1 A xs.length (strs xs) ∧ Below w.heap.size w w'
theorem own_cap {base e size n : Nat} {W : World} {A : Option Addr} {cap : Nat} {xs : List Value} (ho : W.ownsRow base e size (.slice A n cap) n xs) : n ≤ cap := by
  rcases ho.2 with ⟨h0, h1⟩ | ⟨g, c, cur, h0, _, _, h1, _⟩
  · omega
  · injection h0 with _ _ h2; omega
def allTok (l : List UInt8) : Prop := ∀ b ∈ l, tokB b = true

set_option maxRecDepth 100000 in
set_option maxHeartbeats 16000000 in
theorem made05 (A : Option Addr) (n c : Nat) (zs : List Int) (w : World) (hr : Reads w w.heap.size 1 A n (zs.map (Value.int .i64))) (hn : n ≤ 9223372036854775807) (hz : ∀ z ∈ zs, -9223372036854775808 ≤ z ∧ z ≤ 9223372036854775807) :
    Calls Tryd.prog 21 #[.slice A n c] w (MadePost w) := by
  have hzl : zs.length = n := by have := hr.1; simp at this; omega
  obtain ⟨i0, hi, hz0, hz1, hz2⟩ := info_parts infoStr
  have HI := Lib.hid (And.intro hi (And.intro hz0 (And.intro hz1 hz2)))
  have HR := Lib.hid hr
  have HZ := Lib.hid hz
  have HZL := Lib.hid hzl
  have CM := Lib.hid (fun (z m : Int) w => Mod_any z m w)
  clear hi hz0 hz1 hz2 hr hz hzl
  go_enter Tryd.func21, Tryd.ntmps21
  go_wp2_with fail
  go_loopw [3, 4] (fun o i wr => ∃ (k : Nat) (xs : List (List UInt8)), i = .int .i64 k ∧ k ≤ n ∧ k ≤ 12 ∧ xs.length = k ∧ Hid (madeOk xs) ∧ Hid (wr.ownsRow w.heap.size 9 1 o xs.length (strs xs)) ∧ Below w.heap.size w wr) (fun _ i _ => n - (intOf i).toNat)
  case atStart => exact ⟨0, [], rfl, by omega, by omega, rfl, ⟨by simp, by simp, by simp⟩, World.ownsRow_nil _ _ _ _, Below.refl _ _⟩
  case round =>
    obtain ⟨k, xs, rfl, hk, hk12, hxk, HM, HO, hb⟩ := hrel
    rename World => W0
    have HXK := Lib.hid hxk
    clear hxk
    by_cases hgo : k < n ∧ k < 12
    · obtain ⟨hlt, hlt12⟩ := hgo
      have hkz : k < zs.length := by rw [HZL.out]; exact hlt
      obtain ⟨b, o, rfl, hbl, hcell⟩ := HR.out.lit (by omega)
      obtain ⟨z, hzk⟩ : ∃ z, zs[k] = z := ⟨_, rfl⟩
      have hc0 := (hb.cell (p := ⟨b, o + k, none⟩) hbl).trans (hcell k (.int .i64 z) (by rw [List.getElem?_map, List.getElem?_eq_getElem hkz, hzk]; rfl))
      obtain ⟨hzl, hzh⟩ := HZ.out zs[k] (List.getElem_mem hkz)
      rw [hzk] at hzl hzh
      have cM := fun w => CM.out z 1073741824 w hzl hzh (by omega) (by omega)
      have CM' := Lib.hid cM
      have hd12 : decide ((k : Int) < 12) = true := by simp; omega
      clear hcell hzk cM hzl hzh
      go_wp2_with fail
      (with_reducible refine (CM'.out _).mono ?_); rintro e w1 ⟨r, hr0, hr1, rfl, rfl⟩
      go_wp2_with fail
      go_loop [5, 6, 7] (fun nn ss kk => ∃ (q : Int) (u : ByteArray) (j : Nat), nn = .int .i64 q ∧ 0 ≤ q ∧ q < 1073741824 ∧ ss = .string u ∧ kk = .int .i64 j ∧ j ≤ 6 ∧ u.size ≤ 6 ∧ Hid (u.size = j ∧ allTok u.data.toList)) (fun _ _ kk => 7 - (intOf kk).toNat)
      case atStart => exact ⟨r, _, 0, rfl, hr0, hr1, rfl, rfl, by omega, by decide, ⟨rfl, fun b hb => by simp at hb⟩⟩
      case round =>
        obtain ⟨q, u, j, rfl, hq0, hq1, rfl, rfl, hj, huz, HU⟩ := hrel
        have hm0 := Int.emod_nonneg q (show (6 : Int) ≠ 0 by omega)
        have hm1 := Int.emod_lt_of_pos q (show (0 : Int) < 6 by omega)
        by_cases hin : (j : Int) ≤ q % 6
        · have ha0 := Int.emod_nonneg (q / 7) (show (10 : Int) ≠ 0 by omega)
          have ha1 := Int.emod_lt_of_pos (q / 7) (show (0 : Int) < 10 by omega)
          have hqq : 0 ≤ q / 7 := by omega
          go_wp2_with fail
          obtain ⟨a, ha⟩ : ∃ a : Nat, q / 7 % 10 = a := ⟨(q / 7 % 10).toNat, by omega⟩
          obtain ⟨cc, hx, hct⟩ := letters_at a (by omega)
          have hx' : ({ data := #[97, 98, 88, 89, 57, 45, 46, 95, 126, 33] } : ByteArray).extract (q / 7 % 10).toNat (q / 7 % 10 + 1).toNat = bs [cc] := by
            rw [ha]; exact hx
          rw [hx']
          obtain ⟨hus, hut⟩ := HU.out
          have hsz : (u ++ bs [cc]).size = j + 1 := by rw [append_size, bs_size, hus]; rfl
          refine ⟨⟨q / 7, u ++ bs [cc], j + 1, rfl, hqq, by omega, rfl, by go_num, by omega, by omega, hide ⟨hsz, ?_⟩⟩, by simp [intOf]; omega⟩
          intro b hb
          rw [append_toList, bs_list] at hb
          rcases List.mem_append.1 hb with hb | hb
          · exact hut b hb
          · rw [List.mem_singleton.1 hb]; exact hct
        · obtain ⟨hus, hut⟩ := HU.out
          have hj1 : 1 ≤ j := by omega
          have hle : decide ((j : Int) ≤ q % 6) = false := by simpa using hin
          have HTK : Hid (isTok u.data.toList = true) := by
            show _ = _
            show (!u.data.toList.isEmpty && u.data.toList.all tokB) = true
            rw [Bool.and_eq_true]
            refine ⟨?_, List.all_eq_true.2 hut⟩
            have : u.data.toList ≠ [] := fun e => by have := congrArg List.length e; rw [size_l, List.length_nil] at this; omega
            simpa using this
          obtain ⟨i1, i2, i3, i4⟩ := HI.out
          have hxl : xs.length ≤ 12 := by rw [HXK.out]; omega
          obtain ⟨v', w5, hrun, hown, hg5, hlt5, hor⟩ := app_one (P := Tryd.prog) 24 24 9 i0 (.string .empty) 1 16 Tryd.underlying24 i1 i2 i3 i4 rfl (by decide) w.heap.size W0 u3 _ _ HO.out #[.string u] rfl (by intro v hv; simp at hv; subst hv; rfl) 9 (by unfold maxLen; omega) (by omega) hb.size
          have hb5 : Below w.heap.size w w5 := hb.grown hg5 hb.size (own_ge HO.out)
          have HO' : Hid (w5.ownsRow w.heap.size 9 1 v' (xs ++ [u.data.toList]).length (strs (xs ++ [u.data.toList]))) := by
            show w5.ownsRow _ _ _ _ _ _
            rw [strs_app, List.length_append]
            exact hown
          have HM' : Hid (madeOk (xs ++ [u.data.toList])) := by
            obtain ⟨m1, m2, m3⟩ := HM.out
            refine ⟨by rw [List.length_append, HXK.out]; simp; omega, fun y hy => ?_, fun y hy => ?_⟩
            · rcases List.mem_append.1 hy with hy | hy
              · exact m2 y hy
              · rw [List.mem_singleton.1 hy, size_l]; exact huz
            · rcases List.mem_append.1 hy with hy | hy
              · exact m3 y hy
              · rw [List.mem_singleton.1 hy]; exact HTK.out
          have hl' : (xs ++ [u.data.toList]).length = k + 1 := by rw [List.length_append, HXK.out]; rfl
          have HL' := Lib.hid hl'
          have HRUN := Lib.hid hrun
          clear hrun hown hg5 hor hus hut i1 i2 i3 i4 hin hl'
          go_wp2_with (at_builtin; refine wpList_append_run HRUN.out rfl _ _ rfl rfl rfl rfl ?_)
          go_roundw
          case rel => exact ⟨k + 1, xs ++ [u.data.toList], by go_num, by omega, by omega, HL'.out, HM', HO', hb5⟩
          case measure => simp [intOf]; omega
    · obtain ⟨A', cap, rfl⟩ := own_slice HO.out
      have hcap := own_cap HO.out
      have h2 : n ≤ k ∨ (k < n ∧ 12 ≤ k) := by
        rcases Nat.lt_or_ge k n with h | h
        · exact .inr ⟨h, by omega⟩
        · exact .inl h
      clear hgo
      rcases h2 with h2 | ⟨h2, h3⟩
      all_goals (
        go_wp2_with fail
        go_ret
        exact ⟨A', cap, xs, rfl, hcap, HM.out, Reads.of_own HO.out, hb⟩)

/-- two cells that the round reads -/
def TwoCells (p q : Addr) (u v : Value) (W : World) : Prop := W.cell? p = some u ∧ W.cell? q = some v ∧ p.block < W.heap.size ∧ q.block < W.heap.size
theorem TwoCells.below {p q : Addr} {u v : Value} {W W' : World} (h : TwoCells p q u v W) (hb : Below W.heap.size W W') : TwoCells p q u v W' :=
  ⟨(hb.cell h.2.2.1).trans h.1, (hb.cell h.2.2.2).trans h.2.1, Nat.lt_of_lt_of_le h.2.2.1 hb.size, Nat.lt_of_lt_of_le h.2.2.2 hb.size⟩

set_option maxRecDepth 100000 in
set_option maxHeartbeats 16000000 in
theorem TokenBack_true (A : Option Addr) (n c : Nat) (zs : List Int) (w : World) (hr : Reads w w.heap.size 1 A n (zs.map (Value.int .i64))) (hn : n ≤ 9223372036854775807) (hz : ∀ z ∈ zs, -9223372036854775808 ≤ z ∧ z ≤ 9223372036854775807) :
    Calls Tryd.prog 3 #[.slice A n c] w fun e w' => e = .returned (.bool true) ∧ Below w.heap.size w w' := by
  have CM := Lib.hid (fun w (hr : Reads w w.heap.size 1 A n (zs.map (Value.int .i64))) => made05 A n c zs w hr hn hz)
  have HR := Lib.hid hr
  clear hr hz
  go_enter Tryd.func3, Tryd.ntmps3
  go_wp2_with fail
  (with_reducible refine (TokenKnown_true _).mono ?_); rintro e w1 ⟨rfl, hb1⟩
  go_wp2_with fail
  (with_reducible refine (CM.out _ ((HR.out.below hb1).more hb1.size)).mono ?_); rintro e w2 ⟨A2, cap2, xs, rfl, hcap2, ⟨hm1, hm2, hm3⟩, hr2, hb2⟩
  replace hb2 := hb1.trans (hb2.mono hb1.size)
  have hjs := joinL_short xs hm1 hm2
  have hjt : joinT xs = (joinL xs, 0) := by unfold joinT; rw [List.all_eq_true.2 hm3, if_pos rfl]
  have cJ := TJoin_any A2 xs.length cap2 xs w2 hr2 (by omega) hcap2 (fun x hx => by have := hm2 x hx; omega) (by omega)
  rw [hjt] at cJ
  simp only at cJ
  obtain ⟨u, hu⟩ : ∃ u, bs (joinL xs) = u := ⟨_, rfl⟩
  have hul : u.data.toList = joinL xs := by rw [← hu]; rfl
  have hus : u.size ≤ 102 := by rw [← hu, bs_size]; exact hjs
  rw [hu] at cJ
  have CJ := Lib.hid cJ
  obtain ⟨L, hL⟩ : ∃ L, xs.map lowL = L := ⟨_, rfl⟩
  have hLl : L.length = xs.length := by rw [← hL, List.length_map]
  have cL1 := fun w => TList_any u w (by omega)
  rw [hul, list_join xs hm1 hm2 hm3, hL] at cL1
  have CL1 := Lib.hid cL1
  have cL2 := fun w => TList_any ((⟨#[44]⟩ ++ u) ++ ⟨#[32, 9, 44, 44, 32, 44]⟩) w (by rw [append_size, append_size]; show 1 + u.size + 6 ≤ _; omega)
  rw [show ((⟨#[44]⟩ ++ u) ++ ⟨#[32, 9, 44, 44, 32, 44]⟩ : ByteArray).data.toList = 44 :: (joinL xs ++ [32, 9, 44, 44, 32, 44]) by rw [append_toList, append_toList, hul]; rfl, list_wide xs hm1 hm2 hm3, hL] at cL2
  have CL2 := Lib.hid cL2
  have HR2 := Lib.hid hr2
  have d1 : ((L.length : Int) != (xs.length : Int)) = false := by rw [hLl]; simp
  have HM := Lib.hid (And.intro hm1 (And.intro hm2 hm3))
  have HL := Lib.hid (And.intro hL (And.intro hLl hul))
  clear cJ cL1 cL2 hr2 hjt hjs hu hul hb1 hL hm2 hm3 hLl
  go_wp2_with fail
  (with_reducible refine (CJ.out).mono ?_); rintro e w3 ⟨rfl, hb3⟩
  have hr3 := (HR2.out.below hb3).more hb3.size
  replace hb3 := hb2.trans (hb3.mono hb2.size)
  have HR3 := Lib.hid hr3
  clear hr3
  go_wp2_with fail
  (with_reducible refine (CL1.out _).mono ?_); rintro e w4 ⟨A4, cap4, rfl, hr4, hb4⟩
  simp only at hr4
  have HR4 := Lib.hid hr4
  have hr34 := (HR3.out.below hb4).more hb4.size
  have HR34 := Lib.hid hr34
  replace hb4 := hb3.trans (hb4.mono hb3.size)
  clear hr4 hr34 hb3
  go_wp2_with fail
  (with_reducible refine (CL2.out _).mono ?_); rintro e w5 ⟨A5, cap5, rfl, hr5, hb5⟩
  simp only at hr5
  have hLn : L.length ≤ 12 := by rw [HL.out.2.1]; omega
  have hr45 := (HR4.out.below hb5).more hb5.size
  have hr35 := (HR34.out.below hb5).more hb5.size
  have cS := SameTexts_any A4 A5 L.length L.length cap4 cap5 L L w5 hr45 hr5 (by omega) (by omega)
  rw [beq_self_eq_true] at cS
  have CS := Lib.hid cS
  have HR5 := Lib.hid (And.intro hr35 hr45)
  replace hb5 := hb4.trans (hb5.mono hb4.size)
  clear cS hr5 hr45 hr35 hb4 hLn
  go_wp2_with fail
  (with_reducible refine (CS.out).mono ?_); rintro e w6 ⟨rfl, m6, rfl⟩
  go_wp2_with fail
  go_loopw [11] (fun i wr => ∃ k : Nat, i = .int .i64 k ∧ k ≤ xs.length ∧ Below w5.heap.size w5 wr) (fun i _ => xs.length - (intOf i).toNat)
  case atStart => exact ⟨0, rfl, by omega, below_drewN (Below.refl _ _) _⟩
  case round =>
    obtain ⟨k, rfl, hk, hb⟩ := hrel
    rename World => W0
    by_cases hlt : k < xs.length
    · have hltL : k < L.length := by rw [HL.out.2.1]; exact hlt
      obtain ⟨b2, o2, rfl, hbl2, hcell2⟩ := HR5.out.1.text k hlt
      obtain ⟨b4, o4, rfl, hbl4, hcell4⟩ := HR5.out.2.text k hltL
      obtain ⟨x, hx⟩ : ∃ x, xs[k] = x := ⟨_, rfl⟩
      have hxm : x ∈ xs := by rw [← hx]; exact List.getElem_mem hlt
      have hy : L[k] = lowL x := by
        have := HL.out.1
        subst this
        rw [List.getElem_map, hx]
      rw [hx] at hcell2
      rw [hy] at hcell4
      have hT : TwoCells ⟨b4, o4 + k, none⟩ ⟨b2, o2 + k, none⟩ (.string (bs (lowL x))) (.string (bs x)) W0 := ⟨(hb.cell (p := ⟨b4, o4 + k, none⟩) hbl4).trans hcell4, (hb.cell (p := ⟨b2, o2 + k, none⟩) hbl2).trans hcell2, Nat.lt_of_lt_of_le hbl4 hb.size, Nat.lt_of_lt_of_le hbl2 hb.size⟩
      have hx6 := HM.out.2.1 x hxm
      have c0 := hT.2.1
      have cH := fun w => THolds_any u (bs x) w (by omega) (by rw [bs_size]; omega)
      rw [HL.out.2.2, bs_list, holds_join xs HM.out.1 HM.out.2.1 HM.out.2.2 x hxm] at cH
      simp only at cH
      have CH := Lib.hid cH
      have CLo := Lib.hid (fun w' (h : TwoCells ⟨b4, o4 + k, none⟩ ⟨b2, o2 + k, none⟩ (.string (bs (lowL x))) (.string (bs x)) w') => (TLower_any (bs x) w' (by rw [bs_size]; omega)).mono (R' := fun e w'' => e = .returned (.string (bs (lowL x))) ∧ Below w'.heap.size w' w'' ∧ (w''.cell? ⟨b4, o4 + k, none⟩ = some (.string (bs (lowL x))) ∧ w''.cell? ⟨b2, o2 + k, none⟩ = some (.string (bs x))) ∧ Hid (TwoCells ⟨b4, o4 + k, none⟩ ⟨b2, o2 + k, none⟩ (.string (bs (lowL x))) (.string (bs x)) w'')) fun e w'' ⟨he, hbb⟩ => ⟨he, hbb, ⟨(h.below hbb).1, (h.below hbb).2.1⟩, h.below hbb⟩)
      have cSa := fun w => TSame_any (bs (lowL x)) (bs x) w (by rw [bs_size, lowL_len]; omega) (by rw [bs_size]; omega)
      rw [bs_list, bs_list, lowL_low, beq_self_eq_true] at cSa
      have CSa := Lib.hid (fun w' (h : Hid (TwoCells ⟨b4, o4 + k, none⟩ ⟨b2, o2 + k, none⟩ (.string (bs (lowL x))) (.string (bs x)) w')) => (cSa w').mono (R' := fun e w'' => e = .returned (.bool true) ∧ Below w'.heap.size w' w'' ∧ (w''.cell? ⟨b4, o4 + k, none⟩ = some (.string (bs (lowL x))) ∧ w''.cell? ⟨b2, o2 + k, none⟩ = some (.string (bs x)))) fun e w'' ⟨he, hbb⟩ => ⟨he, hbb, (h.out.below hbb).1, (h.out.below hbb).2.1⟩)
      have HT := Lib.hid hT
      have i0 : (0 : Int) ≤ (k : Int) := by omega
      have i1 : (k : Int) < (L.length : Int) := by omega
      have i2 : (k : Int) < (xs.length : Int) := by omega
      clear hcell2 hcell4 hx hy hT cH cSa hxm hx6
      go_wp2_with fail
      (with_reducible refine (CH.out _).mono ?_); rintro e W1 ⟨rfl, hbh⟩
      have hT1 := HT.out.below hbh
      obtain ⟨k1, k2, _, _⟩ := hT1
      have HT1 : Hid (TwoCells ⟨b4, o4 + k, none⟩ ⟨b2, o2 + k, none⟩ (.string (bs (lowL x))) (.string (bs x)) W1) := HT.out.below hbh
      have hbW := hb.trans (hbh.mono hb.size)
      have CLo' := Lib.hid (CLo.out W1.drew HT1.out)
      clear hbh
      go_wp2_with fail
      go_region_held3 (fun w' => (w'.cell? ⟨b4, o4 + k, none⟩ = some (.string (bs (lowL x))) ∧ w'.cell? ⟨b2, o2 + k, none⟩ = some (.string (bs x)))) (go_keep)
        (first | (go_at_call 26; (with_reducible refine (CLo'.out).mono ?_); rintro r w2' ⟨rfl, hbl, ⟨j0, j1⟩, HJ⟩) | (go_at_call 27; (with_reducible refine (CSa.out _ HJ).mono ?_); rintro r w3' ⟨rfl, hbs, j2, j3⟩))
      all_goals (
        have hbX := (hbW.drew.trans (hbl.mono hbW.size)).trans (hbs.mono (Nat.le_trans hbW.size hbl.size))
        go_wp2_with fail
        go_roundw
        case rel => exact ⟨k + 1, by go_num, by omega, hbX⟩
        case measure => simp [intOf]; omega)
    · have hkl : k = xs.length := by omega
      subst hkl
      have hd : decide ((xs.length : Int) < (xs.length : Int)) = false := by simp
      go_wp2_with fail
      go_ret
      exact ⟨rfl, hb5.trans (hb.mono hb5.size)⟩
end Go.Proofs.YtepemdmjbfoiaaaDoor
