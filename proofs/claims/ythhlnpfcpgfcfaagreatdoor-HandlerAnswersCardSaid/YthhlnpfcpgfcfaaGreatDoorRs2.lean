/-
  Which fields may be sent, which responses are right: respond.own, May, Check.
-/
import Derived.Test.YthhlnpfcpgfcfaaGreatDoorRs1
import Derived.Test.YthhlnpfcpgfcfaaGreatDoorFnW
import Derived.Test.YthhlnpfcpgfcfaaGreatDoorSf
import Derived.Test.YthhlnpfcpgfcfaaGreatDoorRe3
import Derived.Deep.RegionHeld3
import Derived.LoopTactic
import Derived.Lib.AppendIntMem
namespace Go.Proofs.YthhlnpfcpgfcfaaGreatDoor
open Go.RowKit

/-- the library's tables of white space -/
structure Spaces (w : World) : Prop where
  asc : Lib.TabIs Tryz.prog w "strings.asciiSpace" .u8 Lib.asciiSpaceTab
  u8 : Lib.Utf8Tabs 7 8 w
  ws : Lib.WhiteTab 2 w
theorem Spaces.below {w w' : World} (h : Spaces w) (hb : Below w.heap.size w w') : Spaces w' :=
  ⟨Lib.tabBelow_of_tabIs h.asc w' hb, Utf8Tabs_below h.u8 hb, WhiteTab_below h.ws hb⟩
theorem own_low1 : lowL [67, 111, 110, 116, 101, 110, 116, 45, 76, 101, 110, 103, 116, 104] = [99, 111, 110, 116, 101, 110, 116, 45, 108, 101, 110, 103, 116, 104] := by decide
theorem own_low2 : lowL [84, 114, 97, 110, 115, 102, 101, 114, 45, 69, 110, 99, 111, 100, 105, 110, 103] = [116, 114, 97, 110, 115, 102, 101, 114, 45, 101, 110, 99, 111, 100, 105, 110, 103] := by decide
theorem own_low3 : lowL [67, 111, 110, 110, 101, 99, 116, 105, 111, 110] = [99, 111, 110, 110, 101, 99, 116, 105, 111, 110] := by decide
set_option maxRecDepth 100000 in
set_option maxHeartbeats 1000000 in
theorem pOwn (l : List UInt8) (w : World) (hl : l.length ≤ 1000000) :
    Calls Tryz.prog 74 #[.string (bs l)] w fun e w' => e = .returned (.bool (ownR l)) ∧ Below w.heap.size w w' := by
  have hz := bs_size l
  have c1 := fun X => TSame_any (bs l) ⟨#[67, 111, 110, 116, 101, 110, 116, 45, 76, 101, 110, 103, 116, 104]⟩ X (by omega) (by decide)
  have c2 := fun X => TSame_any (bs l) ⟨#[84, 114, 97, 110, 115, 102, 101, 114, 45, 69, 110, 99, 111, 100, 105, 110, 103]⟩ X (by omega) (by decide)
  have c3 := fun X => TSame_any (bs l) ⟨#[67, 111, 110, 110, 101, 99, 116, 105, 111, 110]⟩ X (by omega) (by decide)
  rw [bs_list] at c1 c2 c3
  rw [show (⟨#[67, 111, 110, 116, 101, 110, 116, 45, 76, 101, 110, 103, 116, 104]⟩ : ByteArray).data.toList = [67, 111, 110, 116, 101, 110, 116, 45, 76, 101, 110, 103, 116, 104] from rfl, own_low1] at c1
  rw [show (⟨#[84, 114, 97, 110, 115, 102, 101, 114, 45, 69, 110, 99, 111, 100, 105, 110, 103]⟩ : ByteArray).data.toList = [84, 114, 97, 110, 115, 102, 101, 114, 45, 69, 110, 99, 111, 100, 105, 110, 103] from rfl, own_low2] at c2
  rw [show (⟨#[67, 111, 110, 110, 101, 99, 116, 105, 111, 110]⟩ : ByteArray).data.toList = [67, 111, 110, 110, 101, 99, 116, 105, 111, 110] from rfl, own_low3] at c3
  obtain ⟨b1, h1⟩ : ∃ b, (lowL l == [99, 111, 110, 116, 101, 110, 116, 45, 108, 101, 110, 103, 116, 104]) = b := ⟨_, rfl⟩
  obtain ⟨b2, h2⟩ : ∃ b, (lowL l == [116, 114, 97, 110, 115, 102, 101, 114, 45, 101, 110, 99, 111, 100, 105, 110, 103]) = b := ⟨_, rfl⟩
  obtain ⟨b3, h3⟩ : ∃ b, (lowL l == [99, 111, 110, 110, 101, 99, 116, 105, 111, 110]) = b := ⟨_, rfl⟩
  have eO : ownR l = (b1 || b2 || b3) := by unfold ownR; rw [h1, h2, h3]
  rw [eO]
  rw [h1] at c1
  rw [h2] at c2
  rw [h3] at c3
  have C1 := Lib.hid c1
  have C2 := Lib.hid c2
  have C3 := Lib.hid c3
  clear c1 c2 c3 h1 h2 h3 eO
  cases b1
  · cases b2
    · go_enter Tryz.func74, Tryz.ntmps74
      go_wp2_with fail
      (with_reducible refine (C1.out _).mono ?_); rintro e w1 ⟨rfl, g1⟩
      go_wp2_with fail
      (with_reducible refine (C2.out _).mono ?_); rintro e w2 ⟨rfl, g2⟩
      go_wp2_with fail
      (with_reducible refine (C3.out _).mono ?_); rintro e w3 ⟨rfl, g3⟩
      go_wp2_with fail
      go_ret
      exact ⟨by simp, (g1.trans (g2.mono g1.size)).trans (g3.mono (by have := g1.size; have := g2.size; omega))⟩
    · go_enter Tryz.func74, Tryz.ntmps74
      go_wp2_with fail
      (with_reducible refine (C1.out _).mono ?_); rintro e w1 ⟨rfl, g1⟩
      go_wp2_with fail
      (with_reducible refine (C2.out _).mono ?_); rintro e w2 ⟨rfl, g2⟩
      go_wp2_with fail
      go_ret
      exact ⟨by simp, g1.trans (g2.mono g1.size)⟩
  · go_enter Tryz.func74, Tryz.ntmps74
    go_wp2_with fail
    (with_reducible refine (C1.out _).mono ?_); rintro e w1 ⟨rfl, g1⟩
    go_wp2_with fail
    go_ret
    exact ⟨by simp, g1⟩
theorem may11 {f : List UInt8 × List UInt8} (h : isTok f.1 = false ∨ 40 < f.1.length ∨ ownR f.1 = true) : mayR f = 11 := if_pos h
theorem may4 {f : List UInt8 × List UInt8} (h : ¬ (isTok f.1 = false ∨ 40 < f.1.length ∨ ownR f.1 = true)) (h2 : 1024 < f.2.length) : mayR f = 4 := by unfold mayR; rw [if_neg h, if_pos h2]
/-- a byte that is not printed -/
def offB (b : UInt8) : Bool := decide (b.toNat < 32) || decide (126 < b.toNat)
theorem may_rest {f : List UInt8 × List UInt8} (h : ¬ (isTok f.1 = false ∨ 40 < f.1.length ∨ ownR f.1 = true)) (h2 : ¬ 1024 < f.2.length) : mayR f = if f.2.any offB = true ∨ Lib.trimSpaceD f.2 ≠ f.2 then 3 else 0 := by
  unfold mayR
  rw [if_neg h, if_neg h2]
  have e : (f.2.any fun b => decide (b.toNat < 32) || decide (126 < b.toNat)) = f.2.any offB := rfl
  rw [e]
  by_cases ha : f.2.any offB = true
  · rw [if_pos (.inr (.inr ha)), if_pos (.inl ha)]
  · have hp : ∀ b ∈ f.2, 32 ≤ b.toNat ∧ b.toNat ≤ 126 := by
      intro b hb
      simp only [List.any_eq_true, not_exists, not_and] at ha
      have := ha b hb
      unfold offB at this
      simp only [Bool.or_eq_true, decide_eq_true_eq, not_or] at this
      omega
    have ht := trim_print f.2 hp
    by_cases he : f.2.head? = some 32 ∨ f.2.getLast? = some 32
    · rw [if_pos (by rcases he with he | he; exact .inl he; exact .inr (.inl he)), if_pos (.inr fun e => (ht.1 e) he)]
    · rw [if_neg (by rintro (h | h | h); exact he (.inl h); exact he (.inr h); exact ha h), if_neg (by rintro (h | h); exact ha h; exact h (ht.2 he))]
theorem any_off_take {l : List UInt8} {k : Nat} (hk : k < l.length) (h : (l.take k).any offB = false) (hb : offB l[k] = false) : (l.take (k + 1)).any offB = false := by
  rw [List.take_succ_eq_append_getElem hk, List.any_append, h]; simp [hb]
theorem any_off_at {l : List UInt8} {k : Nat} (hk : k < l.length) (hb : offB l[k] = true) : l.any offB = true := List.any_eq_true.2 ⟨l[k], List.getElem_mem hk, hb⟩
set_option maxRecDepth 100000 in
set_option maxHeartbeats 4000000 in
theorem pMayR (f : List UInt8 × List UInt8) (w : World) (h1 : f.1.length ≤ 1000000) (h2 : f.2.length ≤ 1000000) (hs : Spaces w) :
    Calls Tryz.prog 46 #[.agg #[.string (bs f.1), .string (bs f.2)]] w fun e w' => e = .returned (.int .i64 (mayR f : Nat)) ∧ Below w.heap.size w w' := by
  obtain ⟨n, v⟩ := f
  simp only at h1 h2
  have z1 := bs_size n
  have z2 := bs_size v
  have cI := fun X => TIs_any (bs n) X (by omega)
  rw [bs_list] at cI
  have cO := fun X => pOwn n X h1
  have b0 : Below w.heap.size w (w.alloc (.cells #[.string (bs n), .string (bs v)] 57)) := (Below.refl _ _).alloc (Nat.le_refl _) _
  have k0 := Blk.new w 57 #[.string (bs n), .string (bs v)]
  have B0 := Lib.hid b0
  have K0 := Lib.hid k0
  have S0 := Lib.hid hs
  have CI := Lib.hid cI
  have CO := Lib.hid cO
  clear cI cO b0 k0 hs
  cases ht : isTok n with
  | false =>
    rw [may11 (.inl ht)]
    rw [ht] at CI
    clear ht
    go_enter Tryz.func46, Tryz.ntmps46
    go_wp2_with fail
    (with_reducible refine (CI.out _).mono ?_); rintro e w1 ⟨rfl, g1⟩
    go_wp2_with fail
    go_ret
    exact ⟨rfl, B0.out.trans (g1.mono B0.out.size)⟩
  | true =>
    rw [ht] at CI
    by_cases h40 : 40 < n.length
    · rw [may11 (.inr (.inl h40))]
      have d1 : decide ((40 : Int) < ((bs n).size : Int)) = true := by simp; omega
      clear ht
      go_enter Tryz.func46, Tryz.ntmps46
      go_wp2_with fail
      (with_reducible refine (CI.out _).mono ?_); rintro e w1 ⟨rfl, g1⟩
      have K1 := K0.out.below g1 K0.out.lt
      have c0 : w1.cell? ⟨w.heap.size, 0, none⟩ = some (.string (bs n)) := K1.cell 0
      clear K1
      have G1 := Lib.hid g1
      clear g1
      go_wp2_with fail
      go_ret
      exact ⟨rfl, B0.out.trans (G1.out.mono B0.out.size)⟩
    · have d1 : decide ((40 : Int) < ((bs n).size : Int)) = false := by simp; omega
      cases ho : ownR n with
      | true =>
        rw [may11 (.inr (.inr ho))]
        rw [ho] at CO
        clear ht ho
        go_enter Tryz.func46, Tryz.ntmps46
        go_wp2_with fail
        (with_reducible refine (CI.out _).mono ?_); rintro e w1 ⟨rfl, g1⟩
        have K1 := K0.out.below g1 K0.out.lt
        have c0 : w1.cell? ⟨w.heap.size, 0, none⟩ = some (.string (bs n)) := K1.cell 0
        clear K1
        have G1 := Lib.hid (B0.out.trans (g1.mono B0.out.size))
        clear g1
        go_wp2_with fail
        (with_reducible refine (CO.out _).mono ?_); rintro e w2 ⟨rfl, g2⟩
        go_wp2_with fail
        go_ret
        exact ⟨rfl, G1.out.trans (g2.mono G1.out.size)⟩
      | false =>
        have hno : ¬ (isTok n = false ∨ 40 < n.length ∨ ownR n = true) := by
          rintro (h | h | h)
          · rw [ht] at h; cases h
          · exact h40 h
          · rw [ho] at h; cases h
        rw [ho] at CO
        by_cases h1024 : 1024 < v.length
        · rw [may4 hno h1024]
          have d2 : decide ((1024 : Int) < ((bs v).size : Int)) = true := by simp; omega
          clear ht ho hno
          go_enter Tryz.func46, Tryz.ntmps46
          go_wp2_with fail
          (with_reducible refine (CI.out _).mono ?_); rintro e w1 ⟨rfl, g1⟩
          have K1 := K0.out.below g1 K0.out.lt
          have c0 : w1.cell? ⟨w.heap.size, 0, none⟩ = some (.string (bs n)) := K1.cell 0
          have G1 := Lib.hid (B0.out.trans (g1.mono B0.out.size))
          have HK1 := Lib.hid K1
          clear g1 K1
          go_wp2_with fail
          (with_reducible refine (CO.out _).mono ?_); rintro e w2 ⟨rfl, g2⟩
          have K2 := HK1.out.below g2 HK1.out.lt
          have c1 : w2.cell? ⟨w.heap.size, 1, none⟩ = some (.string (bs v)) := K2.cell 1
          have G2 := Lib.hid (G1.out.trans (g2.mono G1.out.size))
          clear g2 K2 c0
          go_wp2_with fail
          go_ret
          exact ⟨rfl, G2.out⟩
        · have d2 : decide ((1024 : Int) < ((bs v).size : Int)) = false := by simp; omega
          have hmr := may_rest (f := (n, v)) hno h1024
          simp only at hmr
          have HM := Lib.hid hmr
          clear ht ho hno hmr
          go_enter Tryz.func46, Tryz.ntmps46
          go_wp2_with fail
          (with_reducible refine (CI.out _).mono ?_); rintro e w1 ⟨rfl, g1⟩
          have K1 := K0.out.below g1 K0.out.lt
          have c0 : w1.cell? ⟨w.heap.size, 0, none⟩ = some (.string (bs n)) := K1.cell 0
          have G1 := Lib.hid (B0.out.trans (g1.mono B0.out.size))
          have HK1 := Lib.hid K1
          clear g1 K1
          go_wp2_with fail
          (with_reducible refine (CO.out _).mono ?_); rintro e w2 ⟨rfl, g2⟩
          have K2 := HK1.out.below g2 HK1.out.lt
          have c1 : w2.cell? ⟨w.heap.size, 1, none⟩ = some (.string (bs v)) := K2.cell 1
          have G2 := Lib.hid (G1.out.trans (g2.mono G1.out.size))
          have HK2 := Lib.hid K2
          clear g2 K2 c0
          go_wp2_with fail
          have cT : ∀ X, Hid (Below w2.heap.size w2 X) → Calls Tryz.prog 75 #[.string (bs v)] X fun e w' => e = .returned (.string (bs (Lib.trimSpaceD v))) ∧ Hid (Below w2.heap.size w2 w') ∧ w'.cell? ⟨w.heap.size, 1, none⟩ = some (.string (bs v)) := by
            intro X hX
            have hsX := ((S0.out.below G2.out).below hX.out)
            refine (Tryz.strings_TrimSpace_any (bs v) X (by omega) hsX.asc hsX.u8 hsX.ws).mono ?_
            rintro e w' ⟨rfl, hb⟩
            refine ⟨rfl, hide (hX.out.trans (hb.mono hX.out.size)), ?_⟩
            exact ((HK2.out.below hX.out HK2.out.lt).below hb (by have := HK2.out.lt; have := hX.out.size; omega)).cell 1
          have CT := Lib.hid cT
          clear cT
          have hd0 : Hid (Below w2.heap.size w2 w2.drew) := hide (Below.refl _ _).drew
          obtain ⟨u, hu⟩ : ∃ u, Lib.trimSpaceD v = u := ⟨_, rfl⟩
          rw [hu] at CT HM
          clear hu
          by_cases huv : u = v
          · have e1 := eq_texts huv
            have HM2 := Lib.hid (show mayR (n, v) = if v.any offB = true then 3 else 0 by
              rw [HM.out]
              by_cases ha : v.any offB = true
              · rw [if_pos (.inl ha), if_pos ha]
              · rw [if_neg (by rintro (h | h); exact ha h; exact h huv), if_neg ha])
            clear huv HM
            go_region_held3 (fun w' => w'.cell? ⟨w.heap.size, 1, none⟩ = some (.string (bs v))) (go_keep) (first | (go_at_call 75; (with_reducible refine (CT.out _ (by assumption)).mono ?_); rintro e w5 ⟨rfl, hb5, k5⟩))
            obtain ⟨cap, w6, hr, hb6, _, hbi, _⟩ := bytes_of_string (P := Tryz.prog) 9 66 5 Tryz.underlying9 Tryz.underlying66 Tryz.underlying5 w5 (bs v)
            have HBI := Lib.hid hbi
            have HB6 := Lib.hid (G2.out.trans ((hb5.out.trans (hb6.mono hb5.out.size)).mono G2.out.size))
            clear hbi hb6
            go_wp2_with fail
            go_loop [37] (fun i => ∃ k : Nat, i = .int .i64 k ∧ k ≤ v.length ∧ Hid ((v.take k).any offB = false)) (fun i => v.length - (intOf i).toNat)
            case atStart => exact ⟨0, rfl, by omega, hide (by simp)⟩
            case round =>
              obtain ⟨k, rfl, hk, hA⟩ := hrel
              by_cases hlt : k < v.length
              · have hcell := HBI.out k (by omega)
                have hbk : (bs v)[k]'(by omega) = v[k] := rfl
                rw [hbk] at hcell
                obtain ⟨c, hc⟩ : ∃ c, v[k] = c := ⟨_, rfl⟩
                obtain ⟨m, hm⟩ : ∃ m, c.toNat = m := ⟨_, rfl⟩
                have hm8 : m < 256 := by rw [← hm]; exact c.toNat_lt
                rw [hc, hm] at hcell
                have hoff : offB v[k] = (decide (m < 32) || decide (126 < m)) := by rw [hc]; unfold offB; rw [hm]
                have HO := Lib.hid hoff
                clear hoff hc hbk
                by_cases hu : m < 32
                · have HX : Hid (mayR (n, v) = 3) := hide (by rw [HM2.out, if_pos (any_off_at hlt (by rw [HO.out]; simp [hu]))])
                  go_wp2_with fail
                  go_ret
                  exact ⟨by rw [HX.out]; rfl, HB6.out⟩
                · by_cases hv : 126 < m
                  · have HX : Hid (mayR (n, v) = 3) := hide (by rw [HM2.out, if_pos (any_off_at hlt (by rw [HO.out]; simp [hv]))])
                    go_wp2_with fail
                    go_ret
                    exact ⟨by rw [HX.out]; rfl, HB6.out⟩
                  · have HA := Lib.hid (any_off_take hlt hA.out (by rw [HO.out]; simp [hu, hv]))
                    go_wp2_with fail
                    go_round
                    case rel => exact ⟨k + 1, by go_num, by omega, HA⟩
                    case measure => simp [intOf]; omega
              · obtain rfl : k = v.length := by omega
                have hA2 := hA.out
                rw [List.take_length] at hA2
                have HX : Hid (mayR (n, v) = 0) := hide (by rw [HM2.out, if_neg (by rw [hA2]; simp)])
                have hd : decide ((v.length : Int) < (v.length : Int)) = false := by simp
                clear hA2 hA
                go_wp2_with fail
                go_ret
                exact ⟨by rw [HX.out]; rfl, HB6.out⟩
          · have e1 := ne_texts huv
            have HM2 : Hid (mayR (n, v) = 3) := by rw [HM.out]; exact if_pos (.inr huv)
            clear huv HM
            go_region_held3 (fun w' => w'.cell? ⟨w.heap.size, 1, none⟩ = some (.string (bs v))) (go_keep) (first | (go_at_call 75; (with_reducible refine (CT.out _ (by assumption)).mono ?_); rintro e w5 ⟨rfl, hb5, k5⟩))
            all_goals go_wp2_with fail
            all_goals go_ret
            all_goals exact ⟨by rw [HM2.out]; rfl, G2.out.trans (hb5.out.mono G2.out.size)⟩
theorem mayAll_at {l : List (List UInt8 × List UInt8)} (k : Nat) (hk : k < l.length) (h : ∀ f ∈ l.take k, mayR f = 0) (hn : mayR l[k] ≠ 0) : mayAllR l = mayR l[k] := by
  induction l generalizing k with
  | nil => simp at hk
  | cons f l ih =>
    cases k with
    | zero =>
      have hn' : mayR f ≠ 0 := hn
      unfold mayAllR
      rw [if_neg hn']; rfl
    | succ k =>
      unfold mayAllR
      rw [if_pos (h f (by simp)), ih k (by simpa using hk) (fun g hg => h g (by simp [hg])) hn]
      rfl
theorem mayAll_none {l : List (List UInt8 × List UInt8)} (h : ∀ f ∈ l, mayR f = 0) : mayAllR l = 0 := by
  induction l with
  | nil => rfl
  | cons f l ih => unfold mayAllR; rw [if_pos (h f (by simp)), ih fun g hg => h g (by simp [hg])]
theorem mayR_take {l : List (List UInt8 × List UInt8)} {k : Nat} (hk : k < l.length) (h : ∀ f ∈ l.take k, mayR f = 0) (hn : mayR l[k] = 0) : ∀ f ∈ l.take (k + 1), mayR f = 0 := by
  intro f hf
  rw [List.take_succ_eq_append_getElem hk] at hf
  rcases List.mem_append.1 hf with hf | hf
  · exact h f hf
  · rw [List.mem_singleton.1 hf]; exact hn
/-- what the walks of this package ask of the library's and the package's tables -/
structure TabR (w : World) : Prop where
  codes : Codes w
  spaces : Spaces w
  tabs : Tabs w
theorem TabR.below {w w' : World} (h : TabR w) (hb : Below w.heap.size w w') : TabR w' := ⟨h.codes.below hb, h.spaces.below hb, h.tabs.below hb⟩
/-- fields of moderate size -/
def fldsOkR (l : List Fld) : Prop := ∀ f ∈ l, f.1.length ≤ 100000 ∧ f.2.length ≤ 100000
def rspV (r : Rsp) (A : Option Addr) (n c : Nat) : Value := .agg #[.int .i64 r.code, .slice A n c, .string (bs r.body), .bool r.close, .bool r.head]
theorem check10 {r : Rsp} (h : reasonR r.code = none) : checkR r = 10 := if_pos h
theorem check5 {r : Rsp} (h : ¬ reasonR r.code = none) (h2 : 32 < r.flds.length) : checkR r = 5 := by unfold checkR; rw [if_neg h, if_pos h2]
theorem checkM {r : Rsp} (h : ¬ reasonR r.code = none) (h2 : ¬ 32 < r.flds.length) (h3 : mayAllR r.flds ≠ 0) : checkR r = mayAllR r.flds := by unfold checkR; rw [if_neg h, if_neg h2, if_pos h3]
theorem check4 {r : Rsp} (h : ¬ reasonR r.code = none) (h2 : ¬ 32 < r.flds.length) (h3 : mayAllR r.flds = 0) : checkR r = if 4096 < r.body.length then 4 else 0 := by unfold checkR; rw [if_neg h, if_neg h2, if_neg (by omega)]
set_option maxRecDepth 100000 in
set_option maxHeartbeats 4000000 in
theorem pCheckR (r : Rsp) (A : Option Addr) (n c : Nat) (w : World) (hr : Reads w w.heap.size 2 A n (fldsC r.flds)) (hn : n ≤ 1000000) (hl : fldsOkR r.flds) (hb : r.body.length ≤ 1000000) (ht : TabR w) :
    Calls Tryz.prog 30 #[rspV r A n c] w fun e w' => e = .returned (.int .i64 (checkR r : Nat)) ∧ Below w.heap.size w w' := by
  obtain rfl := hr.flen
  obtain ⟨code, flds, body, close, head⟩ := r
  unfold rspV
  simp only at *
  have cR := fun (X : World) (hX : Codes X) => Reason_any code X hX
  have eE : errR code = if reasonR code = none then 10 else 0 := rfl
  have b0 : Below w.heap.size w (w.alloc (.cells #[.int .i64 code, .slice A flds.length c, .string (bs body), .bool close, .bool head] 24)) := (Below.refl _ _).alloc (Nat.le_refl _) _
  have k0 := Blk.new w 24 #[.int .i64 code, .slice A flds.length c, .string (bs body), .bool close, .bool head]
  have B0 := Lib.hid b0
  have K0 := Lib.hid k0
  have HT := Lib.hid ht
  have HR := Lib.hid hr
  have HL := Lib.hid hl
  have zb := bs_size body
  have CR := Lib.hid (cR _ (ht.codes.below b0))
  clear cR b0 k0 ht hr hl
  by_cases hrn : reasonR code = none
  · rw [check10 (by exact hrn)]
    rw [if_pos hrn] at eE
    have HE := Lib.hid eE
    rw [eE] at CR
    clear hrn eE
    go_enter Tryz.func30, Tryz.ntmps30
    go_wp2_with fail
    (with_reducible refine (CR.out).mono ?_); rintro e w1 ⟨rfl, g1⟩
    go_wp2_with fail
    go_ret
    exact ⟨rfl, B0.out.trans (g1.mono B0.out.size)⟩
  · rw [if_neg hrn] at eE
    rw [eE] at CR
    by_cases h32 : 32 < flds.length
    · rw [check5 (by exact hrn) (by exact h32)]
      have d1 : decide ((32 : Int) < (flds.length : Int)) = true := by simp; omega
      clear hrn eE
      go_enter Tryz.func30, Tryz.ntmps30
      go_wp2_with fail
      (with_reducible refine (CR.out).mono ?_); rintro e w1 ⟨rfl, g1⟩
      have K1 := K0.out.below g1 K0.out.lt
      have c1 : w1.cell? ⟨w.heap.size, 1, none⟩ = some (.slice A flds.length c) := K1.cell 1
      have G1 := Lib.hid (B0.out.trans (g1.mono B0.out.size))
      clear g1 K1
      go_wp2_with fail
      go_ret
      exact ⟨rfl, G1.out⟩
    · have d1 : decide ((32 : Int) < (flds.length : Int)) = false := by simp; omega
      have HRN := Lib.hid (And.intro hrn h32)
      clear hrn eE
      go_enter Tryz.func30, Tryz.ntmps30
      go_wp2_with fail
      (with_reducible refine (CR.out).mono ?_); rintro e w1 ⟨rfl, g1⟩
      have K1 := K0.out.below g1 K0.out.lt
      have c1 : w1.cell? ⟨w.heap.size, 1, none⟩ = some (.slice A flds.length c) := K1.cell 1
      have G1 := Lib.hid (B0.out.trans (g1.mono B0.out.size))
      have HK1 := Lib.hid K1
      clear g1 K1
      go_wp2_with fail
      go_loopw [24] (fun i wr => ∃ k : Nat, i = .int .i64 k ∧ k ≤ flds.length ∧ Hid (∀ f ∈ flds.take k, mayR f = 0) ∧ Hid (Below w1.heap.size w1 wr)) (fun i _ => flds.length - (intOf i).toNat)
      case atStart => exact ⟨0, rfl, by omega, hide (by simp), hide (Below.refl _ _)⟩
      case round =>
        obtain ⟨k, rfl, hk, hA, hB⟩ := hrel
        rename World => wr
        have GB := Lib.hid (G1.out.trans (hB.out.mono G1.out.size))
        by_cases hlt : k < flds.length
        · obtain ⟨b, o, rfl, hbl, c2, c3⟩ := HR.out.fld k hlt
          have c2 := (GB.out.cell (p := ⟨b, o + k * 2, none⟩) hbl).trans c2
          have c3 := (GB.out.cell (p := ⟨b, o + k * 2 + 1, none⟩) hbl).trans c3
          have hfk := HL.out flds[k] (List.getElem_mem hlt)
          obtain ⟨f, hf⟩ : ∃ f, flds[k] = f := ⟨_, rfl⟩
          rw [hf] at c2 c3 hfk
          have g2 : Below wr.heap.size wr (wr.alloc (.cells #[.string (bs f.1), .string (bs f.2)] 57)) := (Below.refl _ _).alloc (Nat.le_refl _) _
          have cM := pMayR f (wr.alloc (.cells #[.string (bs f.1), .string (bs f.2)] 57)) (by omega) (by omega) ((HT.out.spaces.below GB.out).below g2)
          have G2 := Lib.hid (GB.out.trans (g2.mono GB.out.size))
          have G3 := Lib.hid (hB.out.trans (g2.mono hB.out.size))
          have CM := Lib.hid cM
          have HF := Lib.hid hf
          have i0 : (0 : Int) ≤ (k : Int) := by omega
          have i1 : (k : Int) < (flds.length : Int) := by omega
          clear cM g2 hf hfk c1
          by_cases hm : mayR f = 0
          · have HA := Lib.hid (mayR_take hlt hA.out (by rw [HF.out]; exact hm))
            rw [hm] at CM
            clear hm
            go_wp2_with fail
            (with_reducible refine (CM.out).mono ?_); rintro e w5 ⟨rfl, g5⟩
            go_wp2_with fail
            go_roundw
            case rel => exact ⟨k + 1, by go_num, by omega, HA, hide (G3.out.trans (g5.mono G3.out.size))⟩
            case measure => simp [intOf]; omega
          · have hx := mayAll_at k hlt hA.out (by rw [HF.out]; exact hm)
            rw [HF.out] at hx
            have hck := checkM (r := ⟨code, flds, body, close, head⟩) HRN.out.1 HRN.out.2 (by show mayAllR flds ≠ 0; rw [hx]; exact hm)
            have hck : checkR ⟨code, flds, body, close, head⟩ = mayR f := hck.trans hx
            have hne : ((mayR f : Int) != 0) = true := by rw [bne_iff_ne]; omega
            obtain ⟨E, hE⟩ : ∃ E, mayR f = E := ⟨_, rfl⟩
            rw [hE] at hne CM hck
            have HC := Lib.hid hck
            clear hm hx hck hE
            go_wp2_with fail
            (with_reducible refine (CM.out).mono ?_); rintro e w5 ⟨rfl, g5⟩
            go_wp2_with fail
            go_ret
            exact ⟨by rw [HC.out]; rfl, G2.out.trans (g5.mono G2.out.size)⟩
        · obtain rfl : k = flds.length := by omega
          have hA2 := hA.out
          rw [List.take_length] at hA2
          have hck := check4 (r := ⟨code, flds, body, close, head⟩) HRN.out.1 HRN.out.2 (mayAll_none hA2)
          simp only at hck
          have hd : decide ((flds.length : Int) < (flds.length : Int)) = false := by simp
          have c4 : wr.cell? ⟨w.heap.size, 2, none⟩ = some (.string (bs body)) := (HK1.out.below hB.out HK1.out.lt).cell 2
          clear hA hA2 c1
          by_cases hbig : 4096 < body.length
          · rw [if_pos hbig] at hck
            have HC := Lib.hid hck
            have d2 : decide ((4096 : Int) < ((bs body).size : Int)) = true := by simp; omega
            clear hck
            go_wp2_with fail
            go_ret
            exact ⟨by rw [HC.out]; rfl, GB.out⟩
          · rw [if_neg hbig] at hck
            have HC := Lib.hid hck
            have d2 : decide ((4096 : Int) < ((bs body).size : Int)) = false := by simp; omega
            clear hck
            go_wp2_with fail
            go_ret
            exact ⟨by rw [HC.out]; rfl, GB.out⟩
end Go.Proofs.YthhlnpfcpgfcfaaGreatDoor
