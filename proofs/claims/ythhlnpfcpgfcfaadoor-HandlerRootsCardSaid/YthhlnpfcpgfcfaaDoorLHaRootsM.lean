/-
  What the walk of HandlerKnown asks beside Tab42, out of what a row lays: the tables of white space and of UTF-8. What File names, and what Under says: in plain words. waypostlaw42.HandlerRoots: true, whatever the two strings.
-/
import Derived.Test.YthhlnpfcpgfcfaaDoorHaOp
import Derived.Test.YthhlnpfcpgfcfaaDoorHa15
import Derived.Test.YthhlnpfcpgfcfaaDoorHa0
import Derived.Deep.RegionHeld3
import Derived.Deep.Cut
import Derived.Deep.DeepCutAuto
namespace Go.Proofs.YthhlnpfcpgfcfaaDoor

section
open Go.RowKit Go.Lib

theorem spaces_of {W : World} {laid : List (String × DataW Unit)} (h : laidMet Tryd.prog laid W)
    (h3 : ("strings.asciiSpace", Rows.laid_strings_asciiSpace) ∈ laid) (h4 : ("unicode/utf8.first", Rows.laid_unicode_utf8_first) ∈ laid) (h5 : ("unicode/utf8.acceptRanges", Rows.laid_unicode_utf8_acceptRanges) ∈ laid) (h6 : ("unicode.White_Space", Rows.laid_unicode_White_Space) ∈ laid) : Spaces W :=
  ⟨tabIs_of_reads gAsc gAscType Tryd.underlying134 Tryd.underlying5 cells_u8 cells_a256 (by rw [ascData]; exact Lib.laidMet.reads h h3),
    utf8Tabs_of_reads { Tryd.lays163 with } u8X (by rw [firstDataR]; exact Lib.laidMet.reads h h4) (by rw [acceptDataR]; exact Lib.laidMet.reads h h5),
    whiteTab_of_reads { Tryd.lays163 with } whiteX (by rw [whiteDataR]; exact Lib.laidMet.reads h h6)⟩
end

section
open Go.RowKit

def isRoot (root : List UInt8) : Prop := root = [47] ∨ root = [47, 115, 114, 118]
def fileF (root rest : List UInt8) : FoundP := ⟨true, [], 3, root, [], [], rest⟩
def noReq : ReqP := ⟨[], [], [], []⟩
theorem roots_body {root rest : List UInt8} (hr : isRoot root) (hl : rest.length ≤ 60) : bodyT (fileF root rest) noReq = ([102, 105, 108, 101, 32] ++ plainT (pathF (fileF root rest)) ++ [10], 0) := by
  have hc : checkF (fileF root rest) = 0 := by
    rcases hr with rfl | rfl <;> (unfold checkF fileF; simp; decide)
  have hs : saysT (fileF root rest) noReq = [102, 105, 108, 101, 32] ++ plainT (pathF (fileF root rest)) ++ [10] := rfl
  have h2 : (pathF (fileF root rest)).length ≤ 65 := by
    unfold pathF fileF
    rcases hr with rfl | rfl <;> (simp only; split <;> simp <;> omega)
  have h3 := (plainT_len (pathF (fileF root rest))).2
  unfold bodyT
  rw [if_neg (by simp [hc]), if_neg (by simp [fileF]), hs, if_neg (by simp; omega)]
theorem roots_begin {root rest : List UInt8} (hr : isRoot root) : ∃ t, plainT (pathF (fileF root rest)) = root ++ t := by
  have h : plainT root = root := by rcases hr with rfl | rfl <;> decide
  unfold pathF
  exact ⟨_, by rw [plainT_app, show (fileF root rest).text = root from rfl, h]⟩
theorem roots_under {root rest p : List UInt8} (hr : isRoot root) (hh : rest.head? ≠ some 47) (h : underT root rest = (p, 0)) : p = pathF (fileF root rest) := by
  unfold underT at h
  split at h
  · exact absurd (Prod.mk.inj h).2 (by decide)
  · unfold pathF fileF
    simp only
    rcases hr with rfl | rfl
    · rw [if_pos (by simp)] at h
      rw [if_pos (by simp)]
      exact (Prod.mk.inj h).1.symm
    · by_cases h0 : rest = []
      · rw [if_pos (by simp [h0])] at h
        rw [if_pos (by simp [h0])]
        exact (Prod.mk.inj h).1.symm
      · rw [if_neg (by simp [h0, hh])] at h
        rw [if_neg (by simp [h0])]
        exact (Prod.mk.inj h).1.symm
end

section
open Go.RowKit

def okP (s : List UInt8) (k : Nat) : Bool := (s.take k).all fun b => !oddB b
theorem okP_succ (s : List UInt8) (k : Nat) (h : k < s.length) : okP s (k + 1) = (okP s k && !oddB s[k]) := by
  unfold okP
  rw [List.take_succ_eq_append_getElem h, List.all_append]
  simp
theorem okP_all {s : List UInt8} (h : okP s s.length = true) : plainT s = s :=
  plainT_same fun b hb => by
    unfold okP at h
    rw [List.take_length, List.all_eq_true] at h
    simpa using h b hb
/-- what a file's root brings -/
structure RootsAt (s R B G Q : List UInt8) (p : List UInt8) (E : Nat) : Prop where
  body : bodyT (fileF R s) noReq = (B, 0)
  under : underT R s = (p, E)
  plain : plainT p = Q
  hG : G = [102, 105, 108, 101, 32] ++ R
  hB : ∃ t, B = G ++ t
  hQ : E = 0 → B = [102, 105, 108, 101, 32] ++ Q ++ [10]
  hp : p.length ≤ 100
  hBl : B.length ≤ 1000
theorem under_len (R s : List UInt8) : (underT R s).1.length ≤ R.length + 1 + s.length := by
  unfold underT
  split
  · simp
  · split
    · simp
    · simp; omega
theorem roots_at {s R : List UInt8} (hs : s.length ≤ 60) (hR : isRoot R) (hh : s.head? ≠ some 47) : ∃ B G Q p E, RootsAt s R B G Q p E := by
  obtain ⟨t, ht⟩ := roots_begin (rest := s) hR
  have hu := under_len R s
  have hRl : R.length ≤ 4 := by rcases hR with rfl | rfl <;> decide
  refine ⟨_, _, _, (underT R s).1, (underT R s).2, roots_body hR hs, rfl, rfl, rfl, ⟨t ++ [10], by rw [ht]; simp⟩, fun e => ?_, by omega, ?_⟩
  · have hp := roots_under hR hh (show underT R s = ((underT R s).1, 0) from Prod.ext rfl e)
    rw [← hp]
  · have h2 : (pathF (fileF R s)).length ≤ 65 := by
      unfold pathF fileF
      rcases hR with rfl | rfl <;> (simp only; split <;> simp <;> omega)
    have h3 := (plainT_len (pathF (fileF R s))).2
    simp only [List.length_append, List.length_cons, List.length_nil]
    omega
set_option maxRecDepth 100000 in
set_option maxHeartbeats 8000000 in
theorem HandlerRoots_true (s t : List UInt8) (w : World) (hs : s.length ≤ 9223372036854775807) (ht : t.length ≤ 9223372036854775807) (hT : Tab42 w) (hSp : Spaces w) :
    Calls Tryd.prog 9 #[.string (bs s), .string (bs t)] w fun e w' => e = .returned (.bool true) ∧ Below w.heap.size w w' := by
  have hz := bs_size s
  have hzt := bs_size t
  have CK := Lib.hid (pKnown42 w hT hSp)
  have HT := Lib.hid hT
  clear hT hSp
  go_enter Tryd.func9, Tryd.ntmps9
  go_wp2_with fail
  (with_reducible refine (CK.out).mono ?_); rintro e w1 ⟨rfl, g1⟩
  have G1 := Lib.hid g1
  clear g1 CK
  by_cases h1 : 60 < s.length
  · have i1 : (60 : Int) < (s.length : Int) := by omega
    go_wp2_with fail
    go_ret
    exact ⟨rfl, G1.out⟩
  by_cases h2 : 60 < t.length
  · have i1 : ¬ (60 : Int) < (s.length : Int) := by omega
    have i2 : (60 : Int) < (t.length : Int) := by omega
    go_wp2_with fail
    go_ret
    exact ⟨rfl, G1.out⟩
  have i1 : ¬ (60 : Int) < (s.length : Int) := by omega
  have i2 : ¬ (60 : Int) < (t.length : Int) := by omega
  go_wp2_with fail
  go_loopw [6, 7] (fun p i wr => ∃ k : Nat, i = .int .i64 k ∧ k ≤ s.length ∧ p = .bool (okP s k) ∧ Hid (Below w.heap.size w wr)) (fun _ i _ => s.length - (intOf i).toNat)
  case atStart => exact ⟨0, rfl, by omega, rfl, G1⟩
  case round =>
    obtain ⟨k, rfl, hk, rfl, hG⟩ := hrel
    rename World => wr
    by_cases hlt : k < s.length
    · have hi : k < (bs s).size := by omega
      obtain ⟨c, hsu, hb⟩ : ∃ c, okP s (k + 1) = (okP s k && !oddB c) ∧ (bs s)[k] = c := ⟨s[k], okP_succ s k hlt, rfl⟩
      have hc8 : c.toNat < 256 := c.toNat_lt
      have HSU := Lib.hid hsu
      clear hsu
      cases hp : okP s k with
      | false =>
        rw [hp] at HSU
        clear hp
        go_wp2_with fail
        go_roundw
        case rel => exact ⟨k + 1, by go_num, by omega, by rw [HSU.out]; rfl, hG⟩
        case measure => simp [intOf]; omega
      | true =>
        rw [hp] at HSU
        clear hp
        by_cases ho : oddB c = true
        · have hq : (c.toNat : Int) < 32 ∨ (32 ≤ (c.toNat : Int) ∧ ((c.toNat : Int) == 127) = true) ∨ (32 ≤ (c.toNat : Int) ∧ ((c.toNat : Int) == 127) = false ∧ ((c.toNat : Int) == 37) = true) := by
            have := odd_int c
            rw [ho] at this
            simp only [Bool.or_eq_true, decide_eq_true_eq, beq_iff_eq, beq_eq_false_iff_ne] at this ⊢
            omega
          rw [ho] at HSU
          clear ho
          rcases hq with hq1 | ⟨hq1, hq2⟩ | ⟨hq1, hq2, hq3⟩
          all_goals (
            try have hn2 : ((c.toNat : Int) != 127) = !((c.toNat : Int) == 127) := rfl
            try rw [hq2] at hn2
            try have hn3 : ((c.toNat : Int) != 37) = !((c.toNat : Int) == 37) := rfl
            try rw [hq3] at hn3
            go_wp2_with fail
            go_roundw
            case rel => exact ⟨k + 1, by go_num, by omega, by rw [HSU.out]; rfl, hG⟩
            case measure => simp [intOf]; omega)
        · have ho' : oddB c = false := by simpa using ho
          have hq : 32 ≤ (c.toNat : Int) ∧ ((c.toNat : Int) == 127) = false ∧ ((c.toNat : Int) == 37) = false := by
            have := odd_int c
            rw [ho'] at this
            simp only [Bool.or_eq_false_iff, decide_eq_false_iff_not] at this
            exact ⟨by omega, this.1.2, this.2⟩
          rw [ho'] at HSU
          obtain ⟨hq1, hq2, hq3⟩ := hq
          have hn2 : ((c.toNat : Int) != 127) = !((c.toNat : Int) == 127) := rfl
          rw [hq2] at hn2
          have hn3 : ((c.toNat : Int) != 37) = !((c.toNat : Int) == 37) := rfl
          rw [hq3] at hn3
          clear ho ho'
          go_wp2_with fail
          go_roundw
          case rel => exact ⟨k + 1, by go_num, by omega, by rw [HSU.out]; rfl, hG⟩
          case measure => simp [intOf]; omega
    · obtain rfl : k = s.length := by omega
      have cPs := fun X => pPlain s X (by omega)
      have cPt := fun X => pPlain t X (by omega)
      obtain ⟨P, hP⟩ : ∃ P, okP s s.length = P := ⟨_, rfl⟩
      have hps : P = true → plainT s = s := fun e => okP_all (hP.trans e)
      obtain ⟨a, ha⟩ : ∃ a, plainT s = a := ⟨_, rfl⟩
      obtain ⟨b, hb⟩ : ∃ b, plainT t = b := ⟨_, rfl⟩
      have hab : (a = b ↔ s = t) := by subst ha hb; exact ⟨plainT_inj s t, fun e => by rw [e]⟩
      rw [ha] at cPs hps
      rw [hb] at cPt
      rw [hP]
      have CPs := Lib.hid cPs
      have CPt := Lib.hid cPt
      have HPS := Lib.hid (And.intro hps hab)
      clear cPs cPt hps hab ha hb hP
      go_wp2_with fail
      (with_reducible refine (CPs.out _).mono ?_); rintro e w2 ⟨rfl, g2⟩
      have G2 := Lib.hid (hG.out.trans (g2.mono hG.out.size))
      clear g2
      go_wp2_with fail
      (with_reducible refine (CPt.out _).mono ?_); rintro e w3 ⟨rfl, g3⟩
      have G3 := Lib.hid (G2.out.trans (g3.mono G2.out.size))
      clear g3 CPs CPt
      go_upto_region 10 with (fail)
      go_cut [71] (fun c wx => c = .bool false ∧ w3 = wx)
      case first =>
        cases P with
        | false =>
          by_cases hst : s = t
          · have e1 := eq_texts hst
            have e2 := eq_texts (HPS.out.2.2 hst)
            clear hst
            have e3 : (true != true) = false := rfl
            go_wp2_with fail
            go_meet
            exact ⟨rfl, rfl⟩
          · have e1 := ne_texts hst
            have e2 := ne_texts (fun e => hst (HPS.out.2.1 e))
            clear hst
            have e3 : (false != false) = false := rfl
            go_wp2_with fail
            go_meet
            exact ⟨rfl, rfl⟩
        | true =>
          have e0 := eq_texts (HPS.out.1 rfl)
          by_cases hst : s = t
          · have e1 := eq_texts hst
            have e2 := eq_texts (HPS.out.2.2 hst)
            clear hst
            have e3 : (true != true) = false := rfl
            go_wp2_with fail
            go_meet
            exact ⟨rfl, rfl⟩
          · have e1 := ne_texts hst
            have e2 := ne_texts (fun e => hst (HPS.out.2.1 e))
            clear hst
            have e3 : (false != false) = false := rfl
            go_wp2_with fail
            go_meet
            exact ⟨rfl, rfl⟩
      case rest =>
        obtain ⟨rfl, hw⟩ := hcut
        subst hw
        by_cases hh : s.head? = some 47
        · obtain ⟨r, hr⟩ : ∃ r, s = 47 :: r := by
            cases s with
            | nil => simp at hh
            | cons x r => simp at hh; exact ⟨r, by rw [hh]⟩
          have hne : s ≠ [] := by rw [hr]; simp
          obtain ⟨m1, m2⟩ := nemp_bs hne
          have hi : 0 < (bs s).size := by rw [hz, hr]; simp
          obtain ⟨c, hb0, hc⟩ : ∃ c, (bs s)[0] = c ∧ ((c.toNat : Int) == 47) = true := ⟨47, by subst hr; rfl, by decide⟩
          clear hr hh hne
          go_wp2_with fail
          go_ret
          exact ⟨rfl, G3.out⟩
        · go_upto_region 13 with (fail)
          go_cut [79] (fun c wx => c = .bool false ∧ w3 = wx)
          case first =>
            by_cases h0 : s = []
            · obtain ⟨m1, m2⟩ := emp_bs h0
              clear h0
              go_wp2_with fail
              go_meet
              exact ⟨rfl, rfl⟩
            · obtain ⟨m1, m2⟩ := nemp_bs h0
              have hi : 0 < (bs s).size := by
                rw [hz]; cases s with
                | nil => exact absurd rfl h0
                | cons x r => simp
              obtain ⟨c, hb0, hc⟩ : ∃ c, (bs s)[0] = c ∧ ((c.toNat : Int) == 47) = false := by
                refine ⟨_, rfl, ?_⟩
                cases s with
                | nil => exact absurd rfl h0
                | cons x r =>
                  rw [beq_eq_false_iff_ne]
                  intro e
                  apply hh
                  have e2 : x.toNat = 47 := by
                    have : (bs (x :: r))[0] = x := rfl
                    rw [this] at e; omega
                  have e3 : x = 47 := UInt8.toNat_inj.1 (by rw [e2]; rfl)
                  rw [e3]; rfl
              clear h0
              go_wp2_with fail
              go_meet
              exact ⟨rfl, rfl⟩
          case rest =>
            obtain ⟨rfl, hw⟩ := hcut
            subst hw
            have KB := Lib.hid (Blk.new w3 9 #[.string ⟨#[47]⟩, .string ⟨#[47, 115, 114, 118]⟩])
            have G4 := Lib.hid (G3.out.alloc G3.out.size (.cells #[.string ⟨#[47]⟩, .string ⟨#[47, 115, 114, 118]⟩] 9))
            have HH := Lib.hid hh
            clear hh
            go_wp2_with fail
            go_loopw [83] (fun i wr => ∃ k : Nat, i = .int .i64 k ∧ k ≤ 2 ∧ Hid (Below w.heap.size w wr) ∧ Hid (Blk wr w3.heap.size 9 #[.string ⟨#[47]⟩, .string ⟨#[47, 115, 114, 118]⟩])) (fun i _ => 2 - (intOf i).toNat)
            case atStart => exact ⟨0, rfl, by omega, G4, KB⟩
            case round =>
              obtain ⟨k, rfl, hk2, hG5, hKB⟩ := hrel
              rename World => wr
              by_cases hlt2 : k < 2
              · obtain ⟨R, hR, hcell⟩ : ∃ R, isRoot R ∧ wr.cell? ⟨w3.heap.size, k, none⟩ = some (.string (bs R)) := by
                  rcases (show k = 0 ∨ k = 1 by omega) with rfl | rfl
                  · exact ⟨[47], .inl rfl, hKB.out.cell 0⟩
                  · exact ⟨[47, 115, 114, 118], .inr rfl, hKB.out.cell 1⟩
                have hRl : R.length ≤ 4 := by rcases hR with rfl | rfl <;> decide
                obtain ⟨B, G, Q, p, E, hat⟩ := roots_at (s := s) (by omega) hR HH.out
                have hL : LightF (fileF R s) noReq := ⟨by simp [fileF], by simp [fileF], by simp [fileF], by simp only [fileF]; omega, by simp only [fileF]; omega, by simp [noReq], by simp [noReq], by simp [noReq], by simp [noReq], fun x hx => by simp [fileF] at hx, fun x hx => by simp [fileF] at hx⟩
                have CF := Lib.hid (show ∀ X, Calls Tryd.prog 31 #[.int .i64 3, .string (bs R), .string (bs s)] X fun e w' => e = .returned (.agg #[.bool true, .slice none 0 0, .int .i64 3, .string (bs R), .slice none 0 0, .slice none 0 0, .string (bs s)]) ∧ Below X.heap.size X w' from fun X => pFound 3 R s X)
                have CB := Lib.hid (show ∀ X, Calls Tryd.prog 23 #[.agg #[.bool true, .slice none 0 0, .int .i64 3, .string (bs R), .slice none 0 0, .slice none 0 0, .string (bs s)], .agg #[.string ⟨#[]⟩, .string ⟨#[]⟩, .string ⟨#[]⟩, .string ⟨#[]⟩, .slice none 0 0, .string ⟨#[]⟩]] X fun e w' => e = .returned (.tuple #[.string (bs B), .int .i64 0]) ∧ Below X.heap.size X w' from fun X => by
                  have := pBody (fileF R s) noReq none none none none 0 0 0 0 0 ⟨#[]⟩ X hL Reads.none_ Reads.none_
                  rw [hat.body] at this
                  exact this)
                have CU := Lib.hid (show ∀ X, Tab42 X → Calls Tryd.prog 32 #[.string (bs R), .string (bs s)] X fun e w' => e = .returned (.tuple #[.string (bs p), .int .i64 (E : Nat)]) ∧ Below X.heap.size X w' from fun X hX => by
                  have := pUnder R s X (by omega) (by omega) hX
                  rw [hat.under] at this
                  exact this)
                have CP := Lib.hid (show ∀ X, Calls Tryd.prog 35 #[.string (bs p)] X fun e w' => e = .returned (.string (bs Q)) ∧ Below X.heap.size X w' from fun X => by
                  have := pPlain p X (by have := hat.hp; omega)
                  rw [hat.plain] at this
                  exact this)
                have zR := bs_size R
                have HGE := Lib.hid (show (⟨#[102, 105, 108, 101, 32]⟩ : ByteArray) ++ bs R = bs G by rw [hat.hG]; exact bs_app [102, 105, 108, 101, 32] R)
                have zB := bs_size B
                have zQ := bs_size Q
                have hQl : Q.length ≤ 300 := by
                  have := (plainT_len p).2
                  rw [hat.plain] at this
                  have := hat.hp
                  omega
                have hGl : G.length = 5 + R.length := by rw [hat.hG]; simp; omega
                have hBl := hat.hBl
                obtain ⟨tb, htb⟩ := hat.hB
                have hGB : G.length ≤ B.length := by rw [htb]; simp
                have x1 : (bs B).extract 0 G.length = bs G := by
                  apply ba_ext
                  rw [ByteArray.data_extract, bs_list, htb]
                  simp [bs]
                have zG := bs_size G
                rw [hGl] at zG x1 hGB
                have j1 : (0 : Int) ≤ 5 + (R.length : Int) := by omega
                have j2 : 5 + (R.length : Int) ≤ (B.length : Int) := by omega
                have HQ := Lib.hid hat.hQ
                have eG := eq_texts (rfl : G = G)
                clear hat hR htb hL
                go_wp2_with fail
                (with_reducible refine (CF.out _).mono ?_); rintro e w5 ⟨rfl, g5⟩
                have G5 := Lib.hid (hG5.out.trans (g5.mono hG5.out.size))
                have K5 := Lib.hid (hKB.out.below g5 hKB.out.lt)
                clear g5
                go_wp2_with fail
                (with_reducible refine (CB.out _).mono ?_); rintro e w6 ⟨rfl, g6⟩
                have G6 := Lib.hid (G5.out.trans (g6.mono G5.out.size))
                have K6 := Lib.hid (K5.out.below g6 K5.out.lt)
                clear g6
                go_wp2_with fail
                (with_reducible refine (CU.out _ (HT.out.below G6.out)).mono ?_); rintro e w7 ⟨rfl, g7⟩
                have G7 := Lib.hid (G6.out.trans (g7.mono G6.out.size))
                have K7 := Lib.hid (K6.out.below g7 K6.out.lt)
                clear g7 hG5 hKB G5 G6 K5 K6 CF CB CU
                go_upto_region 21 with (fail)
                rw [HGE.out]
                have d1 : decide ((B.length : Int) < 5 + (R.length : Int)) = false := by simp; omega
                by_cases hE : E = 0
                · subst hE
                  have hB2 := HQ.out rfl
                  have eB : ((bs B).toList == ((⟨#[102, 105, 108, 101, 32]⟩ : ByteArray) ++ bs Q ++ ⟨#[10]⟩).toList) = true := by
                    have : (⟨#[102, 105, 108, 101, 32]⟩ : ByteArray) ++ bs Q ++ ⟨#[10]⟩ = bs B := by
                      rw [hB2, show (⟨#[102, 105, 108, 101, 32]⟩ : ByteArray) = bs [102, 105, 108, 101, 32] from rfl, show (⟨#[10]⟩ : ByteArray) = bs [10] from rfl, bs_app, bs_app]
                    rw [this]; simp
                  clear hB2
                  go_wp2_with fail
                  (with_reducible refine (CP.out _).mono ?_); rintro e w8 ⟨rfl, g8⟩
                  have G8 := Lib.hid (G7.out.trans (g8.mono G7.out.size))
                  have K8 := Lib.hid (K7.out.below g8 K7.out.lt)
                  clear g8
                  go_wp2_with fail
                  go_roundw
                  case rel => exact ⟨k + 1, by go_num, by omega, G8, K8⟩
                  case measure => simp [intOf]; omega
                · have hE1 : ((E : Int) == 0) = false := by rw [beq_eq_false_iff_ne]; omega
                  clear HQ
                  go_wp2_with fail
                  go_roundw
                  case rel => exact ⟨k + 1, by go_num, by omega, G7, K7⟩
                  case measure => simp [intOf]; omega
              · obtain rfl : k = 2 := by omega
                go_wp2_with fail
                go_ret
                exact ⟨rfl, hG5.out⟩
theorem HandlerRoots_any (s t : ByteArray) (w : World) (hs : s.size ≤ 9223372036854775807) (ht : t.size ≤ 9223372036854775807) (hT : Tab42 w) (hSp : Spaces w) :
    Calls Tryd.prog 9 #[.string s, .string t] w fun e w' => e = .returned (.bool true) ∧ Below w.heap.size w w' := by
  have h := HandlerRoots_true s.data.toList t.data.toList w (by rw [size_l]; exact hs) (by rw [size_l]; exact ht) hT hSp
  rw [show bs s.data.toList = s from ba_ext (by rw [bs_list]), show bs t.data.toList = t from ba_ext (by rw [bs_list])] at h
  exact h
end
end Go.Proofs.YthhlnpfcpgfcfaaDoor
