/-
  What the walk of HandlerKnown asks beside Tab42, out of what a row lays: the tables of white space and of UTF-8. The reference of tokens (waypostref05): of, Is. The contract of waypostkit.Mod. The statements on handlers in plain words: what was found and outcomes made of numbers, and the answers to them. The statements on handlers: the outcome made of a number. The statements on handlers: what was found and a request, made of a number and a request. The reference of responses: small letters, which fields may be sent, reasons, digits. The reference of responses: Check and Text of a response that may be sent; Safe. The answers to what was found and outcomes made of numbers can be sent: in plain words. waypostlaw42.HandlerSends: true, whatever the numbers and the request.
-/
import Derived.Test.YthhlnpfcpgfcfaaGreatDoorHaOp
import Derived.Test.YthhlnpfcpgfcfaaGreatDoorHa15
import Derived.Test.YthhlnpfcpgfcfaaGreatDoorTk5
import Derived.Test.YthhlnpfcpgfcfaaGreatDoorProg
import Derived.Test.YthhlnpfcpgfcfaaGreatDoorBase
import Derived.Test.YthhlnpfcpgfcfaaGreatDoorBq
import Derived.Outline
import Derived.Lib.MinMax
import Derived.Deep.RegionHeld3
import Derived.Deep.Cut
import Derived.Deep.DeepCutAuto
import Derived.Test.YthhlnpfcpgfcfaaGreatDoorRs2
import Derived.Test.YthhlnpfcpgfcfaaGreatDoorRs8
import Derived.BigQuiet
import Derived.Test.YthhlnpfcpgfcfaaGreatDoorRs3
import Derived.Test.YthhlnpfcpgfcfaaGreatDoorRe1
namespace Go.Proofs.YthhlnpfcpgfcfaaGreatDoor

section
open Go.RowKit Go.Lib

theorem spaces_of {W : World} {laid : List (String × DataW Unit)} (h : laidMet Tryz.prog laid W)
    (h3 : ("strings.asciiSpace", Rows.laid_strings_asciiSpace) ∈ laid) (h4 : ("unicode/utf8.first", Rows.laid_unicode_utf8_first) ∈ laid) (h5 : ("unicode/utf8.acceptRanges", Rows.laid_unicode_utf8_acceptRanges) ∈ laid) (h6 : ("unicode.White_Space", Rows.laid_unicode_White_Space) ∈ laid) : Spaces W :=
  ⟨tabIs_of_reads gAsc gAscType Tryz.underlying145 Tryz.underlying5 cells_u8 cells_a256 (by rw [ascData]; exact Lib.laidMet.reads h h3),
    utf8Tabs_of_reads { Tryz.lays163 with } u8X (by rw [firstDataR]; exact Lib.laidMet.reads h h4) (by rw [acceptDataR]; exact Lib.laidMet.reads h h5),
    whiteTab_of_reads { Tryz.lays163 with } whiteX (by rw [whiteDataR]; exact Lib.laidMet.reads h h6)⟩
end

section
open Go.RowKit

def oth : ByteArray := ⟨#[33, 35, 36, 37, 38, 39, 42, 43, 45, 46, 94, 95, 96, 124, 126]⟩
theorem oth_list : oth.data.toList = tokO := rfl
theorem tok_iff (n : Nat) : tokP n = (decide (48 ≤ n ∧ n ≤ 57 ∨ 65 ≤ n ∧ n ≤ 90 ∨ 97 ≤ n ∧ n ≤ 122) || inB tokO n) := by
  simp only [tokP, anyP, inR, tokR, List.any_cons, List.any_nil, Bool.or_false]
  congr 1
  simp only [Bool.decide_or]
theorem inB_take (l : List UInt8) (k : Nat) (hk : k < l.length) (n : Nat) : inB (l.take (k + 1)) n = (inB (l.take k) n || decide (n = l[k].toNat)) := by
  rw [List.take_succ_eq_append_getElem hk, inB_snoc]
theorem inB_mem (l : List UInt8) (k : Nat) (hk : k < l.length) (n : Nat) (h : n = l[k].toNat) : inB l n = true := by
  simp only [inB, List.any_eq_true]; exact ⟨l[k], List.getElem_mem hk, by simp [h]⟩

set_option maxRecDepth 100000 in
set_option maxHeartbeats 4000000 in
theorem rof (c : UInt8) (w : World) :
    Calls Tryz.prog 107 #[.int .u8 c.toNat] w fun e w' => e = .returned (.bool (tokB c)) ∧ w = w' := by
  unfold tokB
  have hc := c.toNat_lt
  obtain ⟨n, hn⟩ : ∃ n, c.toNat = n := ⟨_, rfl⟩
  rw [hn] at hc ⊢
  have h7 : (48 ≤ n ∧ n ≤ 57) ∨ (97 ≤ n ∧ n ≤ 122) ∨ (65 ≤ n ∧ n ≤ 90) ∨ n < 48 ∨ (57 < n ∧ n < 65) ∨ (90 < n ∧ n < 97) ∨ 122 < n := by omega
  by_cases hT : (48 ≤ n ∧ n ≤ 57) ∨ (97 ≤ n ∧ n ≤ 122) ∨ (65 ≤ n ∧ n ≤ 90)
  · have hv : tokP n = true := by rw [tok_iff, Bool.or_eq_true]; exact .inl (by simp; omega)
    rw [hv]
    clear h7
    rcases hT with ⟨h1, h2⟩ | ⟨h1, h2⟩ | ⟨h1, h2⟩
    all_goals (
      go_enter Tryz.func107, Tryz.ntmps107
      go_wp2_with fail
      go_ret
      exact ⟨rfl, rfl⟩)
  · have h4 : n < 48 ∨ (57 < n ∧ n < 65) ∨ (90 < n ∧ n < 97) ∨ 122 < n := by omega
    have hv : tokP n = inB tokO n := by
      rw [tok_iff]
      have : decide (48 ≤ n ∧ n ≤ 57 ∨ 65 ≤ n ∧ n ≤ 90 ∨ 97 ≤ n ∧ n ≤ 122) = false := by simp; omega
      rw [this, Bool.false_or]
    clear h7 hT
    rw [hv]
    obtain ⟨R, hR⟩ : ∃ R, inB tokO n = R := ⟨_, rfl⟩
    rw [hR]
    have HR := Lib.hid hR
    clear hR hv
    rcases h4 with h1 | ⟨h1, h2⟩ | ⟨h1, h2⟩ | h1
    all_goals (
      go_enter Tryz.func107, Tryz.ntmps107
      go_wp2_with fail
      go_loop [3] (fun i => ∃ k : Nat, i = .int .i64 k ∧ k ≤ 15 ∧ Hid (inB (tokO.take k) n = false)) (fun i => 15 - (intOf i).toNat)
      case atStart => exact ⟨0, rfl, by omega, hide rfl⟩
      case round =>
        obtain ⟨k, rfl, hk, HN⟩ := hrel
        by_cases hlt : k < 15
        · have hkt : k < tokO.length := hlt
          have hidx : ((⟨#[33, 35, 36, 37, 38, 39, 42, 43, 45, 46, 94, 95, 96, 124, 126]⟩ : ByteArray)[k]'hlt) = tokO[k] := rfl
          by_cases he : tokO[k].toNat = n
          · have hb : (((((⟨#[33, 35, 36, 37, 38, 39, 42, 43, 45, 46, 94, 95, 96, 124, 126]⟩ : ByteArray)[k]'hlt).toNat : Nat) : Int) == (n : Int)) = true := eqb_t (by rw [hidx]; omega)
            have hres : R = true := by rw [← HR.out]; exact inB_mem _ k hkt _ (by omega)
            subst hres
            go_wp2_with fail
            go_ret
            exact ⟨rfl, rfl⟩
          · have hb : (((((⟨#[33, 35, 36, 37, 38, 39, 42, 43, 45, 46, 94, 95, 96, 124, 126]⟩ : ByteArray)[k]'hlt).toNat : Nat) : Int) == (n : Int)) = false := eqb_f (by rw [hidx]; omega)
            go_wp2_with fail
            go_round
            case rel =>
              refine ⟨k + 1, by go_num, by omega, hide ?_⟩
              rw [inB_take _ _ hkt, HN.out]
              simp; omega
            case measure => simp [intOf]; omega
        · have hk15 : k = 15 := by omega
          subst hk15
          have hd : decide ((15 : Int) < 15) = false := by simp
          have hres : R = false := by rw [← HR.out]; exact HN.out
          subst hres
          go_wp2_with fail
          go_ret
          exact ⟨rfl, rfl⟩)

theorem isTok_iff (s : ByteArray) : isTok s.data.toList = (!(s.data.toList.isEmpty) && s.data.toList.all tokB) := rfl
theorem all_snoc_false (l : List UInt8) (k : Nat) (hk : k < l.length) (p : UInt8 → Bool) (h : p l[k] = false) : l.all p = false := by
  rw [List.all_eq_false]; exact ⟨l[k], List.getElem_mem hk, by simp [h]⟩

set_option maxRecDepth 100000 in
set_option maxHeartbeats 4000000 in
theorem rIs (s : ByteArray) (w : World) (hs : s.size ≤ 9223372036854775807) :
    Calls Tryz.prog 78 #[.string s] w fun e w' => e = .returned (.bool (isTok s.data.toList)) ∧ w = w' := by
  obtain ⟨R, hR⟩ : ∃ R, isTok s.data.toList = R := ⟨_, rfl⟩
  rw [hR]
  have HR := Lib.hid hR
  have CO := Lib.hid rof
  clear hR
  go_enter Tryz.func78, Tryz.ntmps78
  go_wp2_with fail
  go_loop [3] (fun i => ∃ k : Nat, i = .int .i64 k ∧ k ≤ s.size ∧ Hid (∀ b ∈ s.data.toList.take k, tokB b = true)) (fun i => s.size - (intOf i).toNat)
  case atStart => exact ⟨0, rfl, by omega, hide (by simp)⟩
  case round =>
    obtain ⟨k, rfl, hk, HT⟩ := hrel
    by_cases hlt : k < s.size
    · go_wp2_with fail
      (with_reducible refine (CO.out _ _).mono ?_); rintro e w1 ⟨rfl, rfl⟩
      rcases Bool.eq_false_or_eq_true (tokB s[k]) with ht | ht
      · rw [ht]
        go_wp2_with fail
        go_round
        case rel =>
          refine ⟨k + 1, by go_num, by omega, hide ?_⟩
          have hkl : k < s.data.toList.length := by rw [size_l]; omega
          rw [List.take_succ_eq_append_getElem hkl]
          intro b hb
          rcases List.mem_append.1 hb with hb | hb
          · exact HT.out b hb
          · rw [List.mem_singleton.1 hb]; exact ht
        case measure => simp [intOf]; omega
      · have hres : R = false := by
          rw [← HR.out, isTok_iff, all_snoc_false s.data.toList k (by rw [size_l]; omega) tokB ht]; simp
        rw [ht]
        subst hres
        go_wp2_with fail
        go_ret
        exact ⟨rfl, rfl⟩
    · have hkl : k = s.size := by omega
      subst hkl
      have hd : decide ((s.size : Int) < (s.size : Int)) = false := by simp
      have hall : s.data.toList.all tokB = true := by
        rw [List.all_eq_true]
        intro b hb
        exact HT.out b (by rw [List.take_of_length_le (by rw [size_l]; omega)]; exact hb)
      have hres : (!(s.toList.isEmpty)) = R := by rw [← HR.out, isTok_iff, hall, Lib.toList_data, Bool.and_true]
      go_wp2_with fail
      go_ret
      exact ⟨rfl, rfl⟩
end

section
open Go.RowKit

/-- what Mod returns lies from 0 to m - 1 -/
def ModPost (m : Int) (w : World) (e : Ending) (w' : World) : Prop := ∃ r : Int, 0 ≤ r ∧ r < m ∧ e = .returned (.int .i64 r) ∧ w = w'
theorem Mod_any (n m : Int) (w : World) (hn1 : -9223372036854775808 ≤ n) (hn2 : n ≤ 9223372036854775807) (hm : 1 ≤ m) (hm2 : m ≤ 1099511627776) :
    Calls Tryz.prog 55 #[.int .i64 n, .int .i64 m] w (ModPost m w) := by
  have d1 : decide (m < 1) = false := by simp; omega
  have u1 := Int.tmod_lt_of_pos n (show 0 < m by omega)
  have u2 := Int.lt_tmod_of_pos n (show 0 < m by omega)
  by_cases hp : 0 ≤ n
  · have hr := Int.emod_nonneg n (show m ≠ 0 by omega)
    have hr2 := Int.emod_lt_of_pos n (show 0 < m by omega)
    have d2 : decide (n % m < 0) = false := by simp; omega
    clear u1 u2
    go_enter Tryz.func55, Tryz.ntmps55
    go_wp2_with fail
    go_ret
    exact ⟨n % m, hr, hr2, rfl, rfl⟩
  · have hneg : n < 0 := by omega
    by_cases h0 : n.tmod m < 0
    · have d2 : decide (n.tmod m < 0) = true := by simpa using h0
      go_enter Tryz.func55, Tryz.ntmps55
      go_wp2_with fail
      go_ret
      exact ⟨n.tmod m + m, by omega, by omega, rfl, rfl⟩
    · have d2 : decide (n.tmod m < 0) = false := by simpa using h0
      go_enter Tryz.func55, Tryz.ntmps55
      go_wp2_with fail
      go_ret
      exact ⟨n.tmod m, by omega, by omega, rfl, rfl⟩
end

section
open Go.RowKit

def srvT : List UInt8 := [47, 115, 114, 118]
def getM : List UInt8 := [71, 69, 84]
def headM : List UInt8 := [72, 69, 65, 68]
def postM : List UInt8 := [80, 79, 83, 84]
def putM : List UInt8 := [80, 85, 84]
def hsecT : List UInt8 := [104, 116, 116, 112, 58, 47, 47, 104, 47, 115, 101, 99, 114, 101, 116]
def madeF (b : Bool) (kd : Int) : FoundP := if b then ⟨true, [], kd, srvT, [[120]], [[97, 13, 10, 98]], [99, 47, 100]⟩ else f00
def fourM (m : List UInt8) : Prop := m = getM ∨ m = headM ∨ m = postM ∨ m = putM
theorem check_made (b : Bool) (kd : Int) (h1 : 1 ≤ kd) (h2 : kd ≤ 4) : checkF (madeF b kd) = 0 := by
  cases b with
  | false => show checkF f00 = 0; decide
  | true =>
    have : kd = 1 ∨ kd = 2 ∨ kd = 3 ∨ kd = 4 := by omega
    rcases this with rfl | rfl | rfl | rfl <;> decide +kernel
theorem check_f00 : checkF f00 = 0 := by decide
def hidC (k : Int) : Int := if k = 3 then 403 else if k = 4 then 410 else 500
def hidR (m : List UInt8) (k c : Int) (loc : List UInt8) (close : Bool) : Rsp :=
  if k = 2 then ⟨c, [(locN, loc), textF], [], close, m == [72, 69, 65, 68]⟩ else ⟨hidC k, [textF], (pageT (hidC k)).1, close, m == [72, 69, 65, 68]⟩
theorem code_hid {m : List UInt8} {k c : Int} {f : FoundP} (hk : 2 ≤ k) (hk2 : k ≤ 5) (h2 : k = 2 → movedC c = true) (hf : checkF f = 0) : codeT m k c f = (if k = 2 then c else hidC k, 0) := by
  unfold codeT
  rw [if_neg (by omega), if_neg (fun e => by rw [h2 e.1] at e; exact absurd e.2 (by decide)), if_neg (by omega)]
  have : k = 2 ∨ k = 3 ∨ k = 4 ∨ k = 5 := by omega
  rcases this with rfl | rfl | rfl | rfl <;> rfl
theorem ans_hid {k c : Int} {loc : List UInt8} {f : FoundP} (r : ReqP) (close : Bool) (hk : 2 ≤ k) (hk2 : k ≤ 5) (h2 : k = 2 → movedC c = true ∧ mayR (locN, loc) = 0) (hf : checkF f = 0) : answerT r k c loc f close = (hidR r.method k c loc close, 0) := by
  have hc := code_hid (m := r.method) hk hk2 (fun e => (h2 e).1) hf
  unfold answerT hidR
  rw [hc, if_neg (by simp)]
  by_cases h : k = 2
  · subst h
    rw [if_pos rfl, if_neg (by simp [(h2 rfl).2]), if_pos rfl]
  · rw [if_neg h, if_neg h, if_neg h]
    rw [if_neg (by unfold hidC; split <;> (try split) <;> decide)]
theorem hid_code {m : List UInt8} {k c : Int} {loc : List UInt8} {close : Bool} (h2 : k = 2 → movedC c = true) : (hidR m k c loc close).code ≠ 200 := by
  unfold hidR
  split
  · rename_i h
    exact moved_not (h2 h)
  · show hidC k ≠ 200
    unfold hidC; split <;> (try split) <;> decide
/-- the answer to what was served -/
def oneR (f : FoundP) (r : ReqP) (close : Bool) : Rsp :=
  if f.ok = false then ⟨404, [textF], (pageT 404).1, close, r.method == [72, 69, 65, 68]⟩ else if knownM r.method = false then ⟨405, [textF], (pageT 405).1, close, r.method == [72, 69, 65, 68]⟩ else ⟨200, [textF], saysT f r, close, r.method == [72, 69, 65, 68]⟩
theorem ans_one {c : Int} {loc : List UInt8} {f : FoundP} (r : ReqP) (close : Bool) (hf : checkF f = 0) (hs : (saysT f r).length ≤ 4096) : answerT r 1 c loc f close = (oneR f r close, 0) := by
  have hc : codeT r.method 1 c f = (if f.ok = false then 404 else if knownM r.method = false then 405 else 200, 0) := by
    unfold codeT
    rw [if_neg (by decide), if_neg (by simp), if_neg (by omega), if_neg (by decide), if_neg (by decide), if_neg (by decide), if_neg (by decide)]
    split
    · rfl
    · split <;> rfl
  unfold answerT oneR
  rw [hc, if_neg (by simp), if_neg (by decide)]
  by_cases h : f.ok = false
  · rw [if_pos h, if_neg (by simp), if_pos h]
  · rw [if_neg h]
    by_cases hm : knownM r.method = false
    · rw [if_pos hm, if_neg (by simp), if_neg h, if_pos hm]
    · have hb : bodyT f r = (saysT f r, 0) := by unfold bodyT; rw [if_neg (by omega), if_neg h, if_neg (by omega)]
      rw [if_neg hm, if_pos rfl, if_neg (by rw [hb]; simp), if_neg h, if_neg hm, hb]
/-- what is said is short -/
theorem says_made {b : Bool} {kd : Int} {r : ReqP} (hb : b = true) (h1 : 1 ≤ kd) (h2 : kd ≤ 4) (hm : r.method.length ≤ 4) (hp : r.path.length ≤ 41) (hq : r.query.length ≤ 40) (hbo : r.body.length ≤ 60) : (saysT (madeF b kd) r).length ≤ 4096 := by
  subst hb
  have : kd = 1 ∨ kd = 2 ∨ kd = 3 ∨ kd = 4 := by omega
  have hh : (headE r).length ≤ 90 := by
    unfold headE
    split <;> simp <;> omega
  have h3 := (plainT_len (headE r)).2
  rcases this with rfl | rfl | rfl | rfl
  · show srvT.length ≤ 4096; decide
  · show (plainT (headE r) ++ [10] ++ linesE [[120]] [[97, 13, 10, 98]]).length ≤ 4096
    have : (linesE [[120]] [[97, 13, 10, 98]]).length ≤ 20 := by decide +kernel
    simp only [List.length_append, List.length_cons, List.length_nil]
    omega
  · show (fileT (madeF true 3)).length ≤ 4096; decide +kernel
  · show r.body.length ≤ 4096; omega
theorem light_made {b : Bool} {kd : Int} {r : ReqP} (hm : r.method.length ≤ 4) (hp : r.path.length ≤ 41) (hq : r.query.length ≤ 40) (hbo : r.body.length ≤ 60) : LightF (madeF b kd) r := by
  cases b with
  | false => exact ⟨by simp [madeF, f00], by simp [madeF, f00], by simp [madeF, f00], by simp [madeF, f00], by simp [madeF, f00], by omega, by omega, by omega, by omega, fun x hx => by simp [madeF, f00] at hx, fun x hx => by simp [madeF, f00] at hx⟩
  | true => exact ⟨by simp [madeF], by simp [madeF], by simp [madeF], by show srvT.length ≤ 300; decide, by simp [madeF], by omega, by omega, by omega, by omega, fun x hx => by simp [madeF] at hx; subst hx; simp, fun x hx => by simp [madeF] at hx; subst hx; simp⟩
theorem four_len {m : List UInt8} (h : fourM m) : m.length ≤ 4 := by rcases h with rfl | rfl | rfl | rfl <;> decide
theorem hsec_may : mayR (locN, hsecT) = 0 := by kernel_rfl
theorem textF_may : mayR textF = 0 := by kernel_rfl
end

section
open Go.RowKit

theorem ld6O {W : World} {g : Nat} {cs : Array Value} (h : Blk W g 37 cs) (hc : cs.size = 6) : (loadVar 37 ⟨g, 0, none⟩).run Tryz.prog W = .ok (.agg cs) W :=
  run_loadVar_row W g 37 37 cs (0, 0) _ h Tryz.underlying37 rfl (by rw [hc]; kernel_rfl)
theorem ld6R {W : World} {g : Nat} {cs : Array Value} (h : Blk W g 33 cs) (hc : cs.size = 6) : (loadVar 33 ⟨g, 0, none⟩).run Tryz.prog W = .ok (.agg cs) W :=
  run_loadVar_row W g 33 33 cs (0, 0) _ h Tryz.underlying33 rfl (by rw [hc]; kernel_rfl)
theorem blk6 {w : World} {g : Nat} {t : TypeId} {a0 a1 a2 a3 a4 a5 : Value} (h : Blk w g t #[a0, a1, a2, a3, a4, a5]) (b0 b1 b2 b3 b4 b5 : Value) :
    Blk ((((((w.setCell ⟨g, 0, none⟩ b0).setCell ⟨g, 1, none⟩ b1).setCell ⟨g, 2, none⟩ b2).setCell ⟨g, 3, none⟩ b3).setCell ⟨g, 4, none⟩ b4).setCell ⟨g, 5, none⟩ b5) g t #[b0, b1, b2, b3, b4, b5] := by
  have := (((((h.set_ 0 b0).set_ 1 b1).set_ 2 b2).set_ 3 b3).set_ 4 b4).set_ 5 b5
  simpa using this
theorem bel6 {B g : Nat} {W X : World} (h : Below B W X) (hg : B ≤ g) (b0 b1 b2 b3 b4 b5 : Value) : Below B W ((((((X.setCell ⟨g, 0, none⟩ b0).setCell ⟨g, 1, none⟩ b1).setCell ⟨g, 2, none⟩ b2).setCell ⟨g, 3, none⟩ b3).setCell ⟨g, 4, none⟩ b4).setCell ⟨g, 5, none⟩ b5) :=
  (((((h.setCell (p := ⟨g, 0, none⟩) hg b0).setCell (p := ⟨g, 1, none⟩) hg b1).setCell (p := ⟨g, 2, none⟩) hg b2).setCell (p := ⟨g, 3, none⟩) hg b3).setCell (p := ⟨g, 4, none⟩) hg b4).setCell (p := ⟨g, 5, none⟩) hg b5
def secT : ByteArray := ⟨#[47, 115, 101, 99, 114, 101, 116]⟩
def OutPost (w : World) (e : Ending) (w' : World) : Prop :=
  ∃ kd c why : Int, 1 ≤ kd ∧ kd ≤ 5 ∧ (kd = 2 → movedC c = true) ∧ e = .returned (.agg #[.int .i64 kd, .string secT, .string ⟨#[]⟩, .int .i64 c, .string (bs (if kd = 2 then hsecT else [])), .int .i64 why]) ∧ Below w.heap.size w w'
theorem five_codes (b : Nat) (h : b < 5) : ∃ c : Int, movedC c = true ∧ (#[.int .i64 301, .int .i64 302, .int .i64 303, .int .i64 307, .int .i64 308] : Array Value)[b]? = some (.int .i64 c) := by
  have : b = 0 ∨ b = 1 ∨ b = 2 ∨ b = 3 ∨ b = 4 := by omega
  rcases this with rfl | rfl | rfl | rfl | rfl
  · exact ⟨301, rfl, rfl⟩
  · exact ⟨302, rfl, rfl⟩
  · exact ⟨303, rfl, rfl⟩
  · exact ⟨307, rfl, rfl⟩
  · exact ⟨308, rfl, rfl⟩
set_option maxRecDepth 100000 in
set_option maxHeartbeats 4000000 in
theorem pOutcome (n : Int) (w : World) (h1 : -9223372036854775808 ≤ n) (h2 : n ≤ 9223372036854775807) :
    Calls Tryz.prog 25 #[.int .i64 n] w (OutPost w) := by
  have cM := fun X => Mod_any n 1048576 X h1 h2 (by omega) (by omega)
  have CM := Lib.hid cM
  clear cM
  go_enter Tryz.func25, Tryz.ntmps25
  go_wp2_with fail
  (with_reducible refine (CM.out _).mono ?_); rintro e w1 ⟨r, hr0, hr1, rfl, rfl⟩
  obtain ⟨K, rfl⟩ : ∃ K : Nat, r = K := ⟨r.toNat, by omega⟩
  have t5 : ((K : Int)).tmod 5 = ((K % 5 : Nat) : Int) := (Int.ofNat_tmod K 5).symm
  have d5 : ((K : Int)).tdiv 5 = ((K / 5 : Nat) : Int) := (Int.ofNat_tdiv K 5).symm
  have t55 : (((K / 5 : Nat) : Int)).tmod 5 = ((K / 5 % 5 : Nat) : Int) := (Int.ofNat_tmod (K / 5) 5).symm
  obtain ⟨a, ha⟩ : ∃ a, K % 5 = a := ⟨_, rfl⟩
  obtain ⟨b, hb⟩ : ∃ b, K / 5 % 5 = b := ⟨_, rfl⟩
  obtain ⟨d, hd⟩ : ∃ d, K / 5 = d := ⟨_, rfl⟩
  have ha5 : a < 5 := by omega
  have hb5 : b < 5 := by omega
  rw [ha] at t5
  rw [hb] at t55
  rw [hd] at t55 d5
  have hdK : d ≤ K := by rw [← hd]; exact Nat.div_le_self _ _
  clear ha hb hd
  have hcase : a = 0 ∨ a = 1 ∨ a = 2 ∨ a = 3 ∨ a = 4 := by omega
  obtain ⟨c, hc, hcb⟩ := five_codes b hb5
  have hwd : IntKind.i64.wrap (d : Int) = (d : Int) := by
    rw [IntKind.wrap_i64]; omega
  clear hdK hc hcb c hr0 hr1 ha5
  have hcb : b = 0 ∨ b = 1 ∨ b = 2 ∨ b = 3 ∨ b = 4 := by omega
  rcases hcase with rfl | rfl | rfl | rfl | rfl
  · go_wp2_with fail
    refine bodyPost_ret (results_cellH (p := 2) (ty := 37) (by kernel_rfl) _ _ w.heap.size _ rfl (ld6O ((Blk.new w _ _).alloc _) rfl)) rfl ?_
    exact ⟨1, 0, 0, by omega, by omega, by omega, by first | rfl | kernel_rfl, ((Below.refl _ _).alloc (Nat.le_refl _) _).alloc (by simp) _⟩
  · rcases hcb with rfl | rfl | rfl | rfl | rfl
    all_goals (
      go_wp2_with fail
      refine bodyPost_ret (results_cellH (p := 2) (ty := 37) (by kernel_rfl) _ _ w.heap.size _ rfl (ld6O (((Blk.new w _ _).alloc _).alloc _) rfl)) rfl ?_
      refine ⟨2, _, 0, by omega, by omega, ?_, by first | rfl | kernel_rfl, (((Below.refl _ _).alloc (Nat.le_refl _) _).alloc (by simp) _).alloc (by simp; omega) _⟩
      exact fun _ => rfl)
  · go_wp2_with fail
    refine bodyPost_ret (results_cellH (p := 2) (ty := 37) (by kernel_rfl) _ _ w.heap.size _ rfl (ld6O ((Blk.new w _ _).alloc _) rfl)) rfl ?_
    exact ⟨3, 0, 0, by omega, by omega, by omega, by first | rfl | kernel_rfl, ((Below.refl _ _).alloc (Nat.le_refl _) _).alloc (by simp) _⟩
  · go_wp2_with fail
    refine bodyPost_ret (results_cellH (p := 2) (ty := 37) (by kernel_rfl) _ _ w.heap.size _ rfl (ld6O ((Blk.new w _ _).alloc _) rfl)) rfl ?_
    exact ⟨4, 0, 0, by omega, by omega, by omega, by first | rfl | kernel_rfl, ((Below.refl _ _).alloc (Nat.le_refl _) _).alloc (by simp) _⟩
  · go_wp2_with fail
    refine bodyPost_ret (results_cellH (p := 2) (ty := 37) (by kernel_rfl) _ _ w.heap.size _ rfl (ld6O ((Blk.new w _ _).alloc _) rfl)) rfl ?_
    exact ⟨5, 0, 12, by omega, by omega, by omega, by first | rfl | kernel_rfl, ((Below.refl _ _).alloc (Nat.le_refl _) _).alloc (by simp) _⟩
end

section
open Go.RowKit

theorem results_cell_cell {fn : Func} {p q : Tmp} {ty ty2 : TypeId} {P : Program} (h : fn.results = #[.cell p ty, .cell q ty2]) (tmps : Array Value) (w : World) (g g2 : Nat) (x y : Value)
    (hp : tmps.getD p undef = .pointer (some ⟨g, 0, none⟩)) (hl : (loadVar ty ⟨g, 0, none⟩).run P w = .ok x w) (hq : tmps.getD q undef = .pointer (some ⟨g2, 0, none⟩)) (hl2 : (loadVar ty2 ⟨g2, 0, none⟩).run P w = .ok y w) : (results fn tmps).run P w = .ok (.tuple #[x, y]) w := by
  have hp' : tmps[p]?.getD undef = .pointer (some ⟨g, 0, none⟩) := by simpa using hp
  have hq' : tmps[q]?.getD undef = .pointer (some ⟨g2, 0, none⟩) := by simpa using hq
  simp [results, h, hp', hq', asAddr, hl, hl2]
theorem four_meth (m : Nat) (h : m < 4) : ∃ M, fourM M ∧ (#[.string ⟨#[71, 69, 84]⟩, .string ⟨#[72, 69, 65, 68]⟩, .string ⟨#[80, 79, 83, 84]⟩, .string ⟨#[80, 85, 84]⟩] : Array Value)[m]? = some (.string (bs M)) := by
  have : m = 0 ∨ m = 1 ∨ m = 2 ∨ m = 3 := by omega
  rcases this with rfl | rfl | rfl | rfl
  · exact ⟨getM, .inl rfl, rfl⟩
  · exact ⟨headM, .inr (.inl rfl), rfl⟩
  · exact ⟨postM, .inr (.inr (.inl rfl)), rfl⟩
  · exact ⟨putM, .inr (.inr (.inr rfl)), rfl⟩
def set6 (W : World) (g : Nat) (b0 b1 b2 b3 b4 b5 : Value) : World := (((((W.setCell ⟨g, 0, none⟩ b0).setCell ⟨g, 1, none⟩ b1).setCell ⟨g, 2, none⟩ b2).setCell ⟨g, 3, none⟩ b3).setCell ⟨g, 4, none⟩ b4).setCell ⟨g, 5, none⟩ b5
def set7 (W : World) (g : Nat) (b0 b1 b2 b3 b4 b5 b6 : Value) : World := ((((((W.setCell ⟨g, 0, none⟩ b0).setCell ⟨g, 1, none⟩ b1).setCell ⟨g, 2, none⟩ b2).setCell ⟨g, 3, none⟩ b3).setCell ⟨g, 4, none⟩ b4).setCell ⟨g, 5, none⟩ b5).setCell ⟨g, 6, none⟩ b6
theorem blk7 {w : World} {g : Nat} {t : TypeId} {a0 a1 a2 a3 a4 a5 a6 : Value} (h : Blk w g t #[a0, a1, a2, a3, a4, a5, a6]) (b0 b1 b2 b3 b4 b5 b6 : Value) : Blk (set7 w g b0 b1 b2 b3 b4 b5 b6) g t #[b0, b1, b2, b3, b4, b5, b6] := by
  have := ((((((h.set_ 0 b0).set_ 1 b1).set_ 2 b2).set_ 3 b3).set_ 4 b4).set_ 5 b5).set_ 6 b6
  simpa [set7] using this
theorem far6 {w : World} {g k : Nat} {t : TypeId} {cs : Array Value} (h : Blk w k t cs) (hn : k ≠ g) (b0 b1 b2 b3 b4 b5 : Value) : Blk (set6 w g b0 b1 b2 b3 b4 b5) k t cs :=
  (((((h.far (p := ⟨g, 0, none⟩) hn b0).far (p := ⟨g, 1, none⟩) hn b1).far (p := ⟨g, 2, none⟩) hn b2).far (p := ⟨g, 3, none⟩) hn b3).far (p := ⟨g, 4, none⟩) hn b4).far (p := ⟨g, 5, none⟩) hn b5
theorem far7 {w : World} {g k : Nat} {t : TypeId} {cs : Array Value} (h : Blk w k t cs) (hn : k ≠ g) (b0 b1 b2 b3 b4 b5 b6 : Value) : Blk (set7 w g b0 b1 b2 b3 b4 b5 b6) k t cs :=
  ((((((h.far (p := ⟨g, 0, none⟩) hn b0).far (p := ⟨g, 1, none⟩) hn b1).far (p := ⟨g, 2, none⟩) hn b2).far (p := ⟨g, 3, none⟩) hn b3).far (p := ⟨g, 4, none⟩) hn b4).far (p := ⟨g, 5, none⟩) hn b5).far (p := ⟨g, 6, none⟩) hn b6
theorem bel7 {B g : Nat} {W X : World} (h : Below B W X) (hg : B ≤ g) (b0 b1 b2 b3 b4 b5 b6 : Value) : Below B W (set7 X g b0 b1 b2 b3 b4 b5 b6) :=
  ((((((h.setCell (p := ⟨g, 0, none⟩) hg b0).setCell (p := ⟨g, 1, none⟩) hg b1).setCell (p := ⟨g, 2, none⟩) hg b2).setCell (p := ⟨g, 3, none⟩) hg b3).setCell (p := ⟨g, 4, none⟩) hg b4).setCell (p := ⟨g, 5, none⟩) hg b5).setCell (p := ⟨g, 6, none⟩) hg b6
theorem bel6' {B g : Nat} {W X : World} (h : Below B W X) (hg : B ≤ g) (b0 b1 b2 b3 b4 b5 : Value) : Below B W (set6 X g b0 b1 b2 b3 b4 b5) := bel6 h hg b0 b1 b2 b3 b4 b5
/-- both results written, in either order -/
theorem fin67 {W V : World} {g k B : Nat} {t u : TypeId} {a0 a1 a2 a3 a4 a5 a6 c0 c1 c2 c3 c4 c5 : Value} (h : Blk W g t #[a0, a1, a2, a3, a4, a5, a6]) (h2 : Blk W k u #[c0, c1, c2, c3, c4, c5]) (hne : g ≠ k) (hB : Below B V W) (hg : B ≤ g) (hk : B ≤ k) (b0 b1 b2 b3 b4 b5 b6 d0 d1 d2 d3 d4 d5 : Value) :
    (Blk (set6 (set7 W g b0 b1 b2 b3 b4 b5 b6) k d0 d1 d2 d3 d4 d5) g t #[b0, b1, b2, b3, b4, b5, b6] ∧ Blk (set6 (set7 W g b0 b1 b2 b3 b4 b5 b6) k d0 d1 d2 d3 d4 d5) k u #[d0, d1, d2, d3, d4, d5] ∧ Below B V (set6 (set7 W g b0 b1 b2 b3 b4 b5 b6) k d0 d1 d2 d3 d4 d5)) ∧
    (Blk (set7 (set6 W k d0 d1 d2 d3 d4 d5) g b0 b1 b2 b3 b4 b5 b6) g t #[b0, b1, b2, b3, b4, b5, b6] ∧ Blk (set7 (set6 W k d0 d1 d2 d3 d4 d5) g b0 b1 b2 b3 b4 b5 b6) k u #[d0, d1, d2, d3, d4, d5] ∧ Below B V (set7 (set6 W k d0 d1 d2 d3 d4 d5) g b0 b1 b2 b3 b4 b5 b6)) :=
  ⟨⟨far6 (blk7 h b0 b1 b2 b3 b4 b5 b6) hne d0 d1 d2 d3 d4 d5, blk6 (far7 h2 hne.symm b0 b1 b2 b3 b4 b5 b6) d0 d1 d2 d3 d4 d5, bel6' (bel7 hB hg b0 b1 b2 b3 b4 b5 b6) hk d0 d1 d2 d3 d4 d5⟩,
   ⟨blk7 (far6 h hne d0 d1 d2 d3 d4 d5) b0 b1 b2 b3 b4 b5 b6, far7 (blk6 h2 d0 d1 d2 d3 d4 d5) hne.symm b0 b1 b2 b3 b4 b5 b6, bel7 (bel6' hB hk d0 d1 d2 d3 d4 d5) hg b0 b1 b2 b3 b4 b5 b6⟩⟩
theorem far1 {w : World} {B size n g i : Nat} {A : Option Addr} {xs : List Value} (h : Reads w B size A n xs) (hne : ∀ a, A = some a → a.block ≠ g) (u : Value) : Reads (w.setCell ⟨g, i, none⟩ u) B size A n xs :=
  ⟨h.1, fun hn => by
    obtain ⟨ad, e, hb, hc⟩ := h.2 hn
    refine ⟨ad, e, hb, fun j v hv => (World.cell?_setCell_other w ⟨g, i, none⟩ _ u (fun e2 => hne ad e ?_)).trans (hc j v hv)⟩
    have := congrArg Addr.block e2
    rw [block_of_add] at this
    exact this.symm⟩
theorem reads7 {w : World} {B n g : Nat} {A : Option Addr} {xs : List Value} (h : Reads w B 1 A n xs) (hg : ∀ a, A = some a → a.block ≠ g) (b0 b1 b2 b3 b4 b5 b6 : Value) : Reads (set7 w g b0 b1 b2 b3 b4 b5 b6) B 1 A n xs := by
  have h0 := far1 (i := 0) h hg b0
  have h1 := far1 (i := 1) h0 hg b1
  have h2 := far1 (i := 2) h1 hg b2
  have h3 := far1 (i := 3) h2 hg b3
  have h4 := far1 (i := 4) h3 hg b4
  have h5 := far1 (i := 5) h4 hg b5
  exact far1 (i := 6) h5 hg b6
theorem reads6 {w : World} {B n g : Nat} {A : Option Addr} {xs : List Value} (h : Reads w B 1 A n xs) (hg : ∀ a, A = some a → a.block ≠ g) (b0 b1 b2 b3 b4 b5 : Value) : Reads (set6 w g b0 b1 b2 b3 b4 b5) B 1 A n xs := by
  have h0 := far1 (i := 0) h hg b0
  have h1 := far1 (i := 1) h0 hg b1
  have h2 := far1 (i := 2) h1 hg b2
  have h3 := far1 (i := 3) h2 hg b3
  have h4 := far1 (i := 4) h3 hg b4
  exact far1 (i := 5) h4 hg b5
theorem reads67 {W : World} {A : Option Addr} {n : Nat} {xs : List Value} (h : Reads W W.heap.size 1 A n xs) {g k : Nat} (hg : ∀ a, A = some a → a.block ≠ g) (hk : ∀ a, A = some a → a.block ≠ k) (b0 b1 b2 b3 b4 b5 b6 d0 d1 d2 d3 d4 d5 : Value) :
    Reads (set6 (set7 W g b0 b1 b2 b3 b4 b5 b6) k d0 d1 d2 d3 d4 d5).drew (set6 (set7 W g b0 b1 b2 b3 b4 b5 b6) k d0 d1 d2 d3 d4 d5).drew.heap.size 1 A n xs := by
  have s : W.heap.size ≤ (set6 (set7 W g b0 b1 b2 b3 b4 b5 b6) k d0 d1 d2 d3 d4 d5).heap.size := (bel6' (bel7 (Below.refl 0 W) (Nat.zero_le g) b0 b1 b2 b3 b4 b5 b6) (Nat.zero_le k) d0 d1 d2 d3 d4 d5).size
  have r := reads6 (reads7 h hg b0 b1 b2 b3 b4 b5 b6) hk d0 d1 d2 d3 d4 d5
  generalize set6 (set7 W g b0 b1 b2 b3 b4 b5 b6) k d0 d1 d2 d3 d4 d5 = E at s r ⊢
  exact (r.more s).drew
def MadePost (w : World) (e : Ending) (w' : World) : Prop :=
  ∃ (b : Bool) (kd : Int) (m p q bo : List UInt8) (N V : Option Addr) (cn cv : Nat), 1 ≤ kd ∧ kd ≤ 4 ∧ fourM m ∧ p.length ≤ 40 ∧ q.length ≤ 40 ∧ bo.length ≤ 60 ∧
    e = .returned (.tuple #[fndV (madeF b kd) none N V 0 cn cv, reqV ⟨m, 47 :: p, q, bo⟩ ⟨#[]⟩ none 0 0]) ∧
    Reads w' w'.heap.size 1 N (madeF b kd).names.length (strs (madeF b kd).names) ∧ Reads w' w'.heap.size 1 V (madeF b kd).vals.length (strs (madeF b kd).vals) ∧ Below w.heap.size w w'
theorem cutL (l : List UInt8) (n : Nat) : (bs l).extract 0 n = bs (l.take n) := by
  apply ba_ext
  rw [ByteArray.data_extract, bs_list]
  simp [bs]
def MadeCut (w : World) (RQ : Array Value) (wx : World) : Prop :=
  ∃ (b : Bool) (kd : Int) (N V : Option Addr) (cn cv : Nat), 1 ≤ kd ∧ kd ≤ 4 ∧ Blk wx w.heap.size 33 RQ ∧ Blk wx (w.heap.size + 1) 42 #[.bool false, .slice none 0 0, .int .i64 0, .string ⟨#[]⟩, .slice none 0 0, .slice none 0 0, .string ⟨#[]⟩] ∧ Blk wx (w.heap.size + 1 + 1) 33 #[.string ⟨#[]⟩, .string ⟨#[]⟩, .string ⟨#[]⟩, .string ⟨#[]⟩, .slice none 0 0, .string ⟨#[]⟩] ∧
    Blk wx (w.heap.size + 1 + 1 + 1) 42 (fndC (madeF b kd) none N V 0 cn cv) ∧ Reads wx wx.heap.size 1 N (madeF b kd).names.length (strs (madeF b kd).names) ∧ Reads wx wx.heap.size 1 V (madeF b kd).vals.length (strs (madeF b kd).vals) ∧ (∀ a, N = some a → w.heap.size + 1 + 1 + 1 < a.block) ∧ (∀ a, V = some a → w.heap.size + 1 + 1 + 1 < a.block) ∧ Below w.heap.size w wx
set_option maxRecDepth 100000 in
set_option maxHeartbeats 8000000 in
theorem pMade (n : Int) (r : ReqP) (host : ByteArray) (FA : Option Addr) (fn fc : Nat) (w : World) (h1 : -9223372036854775808 ≤ n) (h2 : n ≤ 9223372036854775807) (hp : r.path.length ≤ 9223372036854775807) (hq : r.query.length ≤ 9223372036854775807) (hb : r.body.length ≤ 9223372036854775807) :
    Calls Tryz.prog 24 #[.int .i64 n, reqV r host FA fn fc] w (MadePost w) := by
  have cM := fun X => Mod_any n 1048576 X h1 h2 (by omega) (by omega)
  have CM := Lib.hid cM
  clear cM
  obtain ⟨meth, path, query, body⟩ := r
  unfold reqV
  simp only at *
  have zp := bs_size path
  have zq := bs_size query
  have zb := bs_size body
  go_enter Tryz.func24, Tryz.ntmps24
  go_wp2_with fail
  (with_reducible refine (CM.out _).mono ?_); rintro e w1 ⟨R, hr0, hr1, rfl, rfl⟩
  obtain ⟨K, rfl⟩ : ∃ K : Nat, R = K := ⟨R.toNat, by omega⟩
  have t6 : ((K : Int)).tmod 6 = ((K % 6 : Nat) : Int) := (Int.ofNat_tmod K 6).symm
  have d6 : ((K : Int)).tdiv 6 = ((K / 6 : Nat) : Int) := (Int.ofNat_tdiv K 6).symm
  have d24 : ((K : Int)).tdiv 24 = ((K / 24 : Nat) : Int) := (Int.ofNat_tdiv K 24).symm
  have t64 : (((K / 6 : Nat) : Int)).tmod 4 = ((K / 6 % 4 : Nat) : Int) := (Int.ofNat_tmod (K / 6) 4).symm
  have t244 : (((K / 24 : Nat) : Int)).tmod 4 = ((K / 24 % 4 : Nat) : Int) := (Int.ofNat_tmod (K / 24) 4).symm
  have hd6K : K / 6 ≤ K := Nat.div_le_self _ _
  have hd24K : K / 24 ≤ K := Nat.div_le_self _ _
  obtain ⟨a, ha⟩ : ∃ a, K % 6 = a := ⟨_, rfl⟩
  obtain ⟨c, hc⟩ : ∃ c, K / 6 % 4 = c := ⟨_, rfl⟩
  obtain ⟨m, hm⟩ : ∃ m, K / 24 % 4 = m := ⟨_, rfl⟩
  have hc4 : c < 4 := by omega
  have hm4 : m < 4 := by omega
  rw [ha] at t6
  rw [hc] at t64
  rw [hm] at t244
  obtain ⟨e6, he6⟩ : ∃ e6, K / 6 = e6 := ⟨_, rfl⟩
  obtain ⟨e24, he24⟩ : ∃ e24, K / 24 = e24 := ⟨_, rfl⟩
  rw [he6] at t64 d6 hd6K
  rw [he24] at t244 d24 hd24K
  have w6 : IntKind.i64.wrap (e6 : Int) = (e6 : Int) := by rw [IntKind.wrap_i64]; omega
  have w24 : IntKind.i64.wrap (e24 : Int) = (e24 : Int) := by rw [IntKind.wrap_i64]; omega
  have wc : IntKind.i64.wrap (1 + (c : Int)) = 1 + (c : Int) := by rw [IntKind.wrap_i64]; omega
  clear ha hc hm he6 he24 hd6K hd24K hr0 hr1
  go_upto_if 16 with (fail)
  go_cut [7] (fun v wx => v = .pointer (some ⟨w.heap.size + 1 + 1 + 1, 0, none⟩) ∧ Hid (MadeCut w #[.string (bs meth), .string (bs path), .string (bs query), .string host, .slice FA fn fc, .string (bs body)] wx))
  case first =>
    by_cases ha0 : a = 0
    · subst ha0
      have bW : Below w.heap.size w ((((w.alloc (.cells #[.string (bs meth), .string (bs path), .string (bs query), .string host, .slice FA fn fc, .string (bs body)] 33)).alloc (.cells #[.bool false, .slice none 0 0, .int .i64 0, .string ⟨#[]⟩, .slice none 0 0, .slice none 0 0, .string ⟨#[]⟩] 42)).alloc (.cells #[.string ⟨#[]⟩, .string ⟨#[]⟩, .string ⟨#[]⟩, .string ⟨#[]⟩, .slice none 0 0, .string ⟨#[]⟩] 33)).alloc (.cells #[.bool false, .slice none 0 0, .int .i64 0, .string ⟨#[]⟩, .slice none 0 0, .slice none 0 0, .string ⟨#[]⟩] 42)) := ((((Below.refl _ _).alloc (Nat.le_refl _) _).alloc (by simp <;> omega) _).alloc (by simp <;> omega) _).alloc (by simp <;> omega) _
      have k0 : Blk ((((w.alloc (.cells #[.string (bs meth), .string (bs path), .string (bs query), .string host, .slice FA fn fc, .string (bs body)] 33)).alloc (.cells #[.bool false, .slice none 0 0, .int .i64 0, .string ⟨#[]⟩, .slice none 0 0, .slice none 0 0, .string ⟨#[]⟩] 42)).alloc (.cells #[.string ⟨#[]⟩, .string ⟨#[]⟩, .string ⟨#[]⟩, .string ⟨#[]⟩, .slice none 0 0, .string ⟨#[]⟩] 33)).alloc (.cells #[.bool false, .slice none 0 0, .int .i64 0, .string ⟨#[]⟩, .slice none 0 0, .slice none 0 0, .string ⟨#[]⟩] 42)) (w.heap.size) 33 #[.string (bs meth), .string (bs path), .string (bs query), .string host, .slice FA fn fc, .string (bs body)] := by
        have := (((Blk.new w 33 #[.string (bs meth), .string (bs path), .string (bs query), .string host, .slice FA fn fc, .string (bs body)]).alloc (.cells #[.bool false, .slice none 0 0, .int .i64 0, .string ⟨#[]⟩, .slice none 0 0, .slice none 0 0, .string ⟨#[]⟩] 42)).alloc (.cells #[.string ⟨#[]⟩, .string ⟨#[]⟩, .string ⟨#[]⟩, .string ⟨#[]⟩, .slice none 0 0, .string ⟨#[]⟩] 33)).alloc (.cells #[.bool false, .slice none 0 0, .int .i64 0, .string ⟨#[]⟩, .slice none 0 0, .slice none 0 0, .string ⟨#[]⟩] 42)
        exact this
      have k1 : Blk ((((w.alloc (.cells #[.string (bs meth), .string (bs path), .string (bs query), .string host, .slice FA fn fc, .string (bs body)] 33)).alloc (.cells #[.bool false, .slice none 0 0, .int .i64 0, .string ⟨#[]⟩, .slice none 0 0, .slice none 0 0, .string ⟨#[]⟩] 42)).alloc (.cells #[.string ⟨#[]⟩, .string ⟨#[]⟩, .string ⟨#[]⟩, .string ⟨#[]⟩, .slice none 0 0, .string ⟨#[]⟩] 33)).alloc (.cells #[.bool false, .slice none 0 0, .int .i64 0, .string ⟨#[]⟩, .slice none 0 0, .slice none 0 0, .string ⟨#[]⟩] 42)) (w.heap.size + 1) 42 #[.bool false, .slice none 0 0, .int .i64 0, .string ⟨#[]⟩, .slice none 0 0, .slice none 0 0, .string ⟨#[]⟩] := by
        have := ((Blk.new (w.alloc (.cells #[.string (bs meth), .string (bs path), .string (bs query), .string host, .slice FA fn fc, .string (bs body)] 33)) 42 #[.bool false, .slice none 0 0, .int .i64 0, .string ⟨#[]⟩, .slice none 0 0, .slice none 0 0, .string ⟨#[]⟩]).alloc (.cells #[.string ⟨#[]⟩, .string ⟨#[]⟩, .string ⟨#[]⟩, .string ⟨#[]⟩, .slice none 0 0, .string ⟨#[]⟩] 33)).alloc (.cells #[.bool false, .slice none 0 0, .int .i64 0, .string ⟨#[]⟩, .slice none 0 0, .slice none 0 0, .string ⟨#[]⟩] 42)
        rw [show (w.alloc (.cells #[.string (bs meth), .string (bs path), .string (bs query), .string host, .slice FA fn fc, .string (bs body)] 33)).heap.size = w.heap.size + 1 by simp] at this
        exact this
      have k2 : Blk ((((w.alloc (.cells #[.string (bs meth), .string (bs path), .string (bs query), .string host, .slice FA fn fc, .string (bs body)] 33)).alloc (.cells #[.bool false, .slice none 0 0, .int .i64 0, .string ⟨#[]⟩, .slice none 0 0, .slice none 0 0, .string ⟨#[]⟩] 42)).alloc (.cells #[.string ⟨#[]⟩, .string ⟨#[]⟩, .string ⟨#[]⟩, .string ⟨#[]⟩, .slice none 0 0, .string ⟨#[]⟩] 33)).alloc (.cells #[.bool false, .slice none 0 0, .int .i64 0, .string ⟨#[]⟩, .slice none 0 0, .slice none 0 0, .string ⟨#[]⟩] 42)) (w.heap.size + 1 + 1) 33 #[.string ⟨#[]⟩, .string ⟨#[]⟩, .string ⟨#[]⟩, .string ⟨#[]⟩, .slice none 0 0, .string ⟨#[]⟩] := by
        have := (Blk.new ((w.alloc (.cells #[.string (bs meth), .string (bs path), .string (bs query), .string host, .slice FA fn fc, .string (bs body)] 33)).alloc (.cells #[.bool false, .slice none 0 0, .int .i64 0, .string ⟨#[]⟩, .slice none 0 0, .slice none 0 0, .string ⟨#[]⟩] 42)) 33 #[.string ⟨#[]⟩, .string ⟨#[]⟩, .string ⟨#[]⟩, .string ⟨#[]⟩, .slice none 0 0, .string ⟨#[]⟩]).alloc (.cells #[.bool false, .slice none 0 0, .int .i64 0, .string ⟨#[]⟩, .slice none 0 0, .slice none 0 0, .string ⟨#[]⟩] 42)
        rw [show ((w.alloc (.cells #[.string (bs meth), .string (bs path), .string (bs query), .string host, .slice FA fn fc, .string (bs body)] 33)).alloc (.cells #[.bool false, .slice none 0 0, .int .i64 0, .string ⟨#[]⟩, .slice none 0 0, .slice none 0 0, .string ⟨#[]⟩] 42)).heap.size = w.heap.size + 1 + 1 by simp] at this
        exact this
      have k3 : Blk ((((w.alloc (.cells #[.string (bs meth), .string (bs path), .string (bs query), .string host, .slice FA fn fc, .string (bs body)] 33)).alloc (.cells #[.bool false, .slice none 0 0, .int .i64 0, .string ⟨#[]⟩, .slice none 0 0, .slice none 0 0, .string ⟨#[]⟩] 42)).alloc (.cells #[.string ⟨#[]⟩, .string ⟨#[]⟩, .string ⟨#[]⟩, .string ⟨#[]⟩, .slice none 0 0, .string ⟨#[]⟩] 33)).alloc (.cells #[.bool false, .slice none 0 0, .int .i64 0, .string ⟨#[]⟩, .slice none 0 0, .slice none 0 0, .string ⟨#[]⟩] 42)) (w.heap.size + 1 + 1 + 1) 42 #[.bool false, .slice none 0 0, .int .i64 0, .string ⟨#[]⟩, .slice none 0 0, .slice none 0 0, .string ⟨#[]⟩] := by
        have := Blk.new (((w.alloc (.cells #[.string (bs meth), .string (bs path), .string (bs query), .string host, .slice FA fn fc, .string (bs body)] 33)).alloc (.cells #[.bool false, .slice none 0 0, .int .i64 0, .string ⟨#[]⟩, .slice none 0 0, .slice none 0 0, .string ⟨#[]⟩] 42)).alloc (.cells #[.string ⟨#[]⟩, .string ⟨#[]⟩, .string ⟨#[]⟩, .string ⟨#[]⟩, .slice none 0 0, .string ⟨#[]⟩] 33)) 42 #[.bool false, .slice none 0 0, .int .i64 0, .string ⟨#[]⟩, .slice none 0 0, .slice none 0 0, .string ⟨#[]⟩]
        rw [show (((w.alloc (.cells #[.string (bs meth), .string (bs path), .string (bs query), .string host, .slice FA fn fc, .string (bs body)] 33)).alloc (.cells #[.bool false, .slice none 0 0, .int .i64 0, .string ⟨#[]⟩, .slice none 0 0, .slice none 0 0, .string ⟨#[]⟩] 42)).alloc (.cells #[.string ⟨#[]⟩, .string ⟨#[]⟩, .string ⟨#[]⟩, .string ⟨#[]⟩, .slice none 0 0, .string ⟨#[]⟩] 33)).heap.size = w.heap.size + 1 + 1 + 1 by simp] at this
        exact this
      have HX := Lib.hid (show MadeCut w #[.string (bs meth), .string (bs path), .string (bs query), .string host, .slice FA fn fc, .string (bs body)] ((((w.alloc (.cells #[.string (bs meth), .string (bs path), .string (bs query), .string host, .slice FA fn fc, .string (bs body)] 33)).alloc (.cells #[.bool false, .slice none 0 0, .int .i64 0, .string ⟨#[]⟩, .slice none 0 0, .slice none 0 0, .string ⟨#[]⟩] 42)).alloc (.cells #[.string ⟨#[]⟩, .string ⟨#[]⟩, .string ⟨#[]⟩, .string ⟨#[]⟩, .slice none 0 0, .string ⟨#[]⟩] 33)).alloc (.cells #[.bool false, .slice none 0 0, .int .i64 0, .string ⟨#[]⟩, .slice none 0 0, .slice none 0 0, .string ⟨#[]⟩] 42)) from ⟨false, 1, none, none, 0, 0, by omega, by omega, k0, k1, k2, k3, Reads.none_, Reads.none_, (fun a e => by cases e), (fun a e => by cases e), bW⟩)
      clear bW k0 k1 k2 k3
      go_wp2_with fail
      go_meet
      exact ⟨rfl, HX⟩
    · have ha1 : (0 : Int) < (a : Int) := by omega
      have ha2 : 0 < a := by omega
      have bW : Below w.heap.size w ((((((w.alloc (.cells #[.string (bs meth), .string (bs path), .string (bs query), .string host, .slice FA fn fc, .string (bs body)] 33)).alloc (.cells #[.bool false, .slice none 0 0, .int .i64 0, .string ⟨#[]⟩, .slice none 0 0, .slice none 0 0, .string ⟨#[]⟩] 42)).alloc (.cells #[.string ⟨#[]⟩, .string ⟨#[]⟩, .string ⟨#[]⟩, .string ⟨#[]⟩, .slice none 0 0, .string ⟨#[]⟩] 33)).alloc (.cells #[.bool true, .slice none 0 0, .int .i64 (1 + (c : Int)), .string ⟨#[47, 115, 114, 118]⟩, .slice (some ⟨w.heap.size + 1 + 1 + 1 + 1, 0, none⟩) 1 1, .slice (some ⟨w.heap.size + 1 + 1 + 1 + 1 + 1, 0, none⟩) 1 1, .string ⟨#[99, 47, 100]⟩] 42)).alloc (.cells #[.string ⟨#[120]⟩] 9)).alloc (.cells #[.string ⟨#[97, 13, 10, 98]⟩] 9)) := ((((((Below.refl _ _).alloc (Nat.le_refl _) _).alloc (by simp <;> omega) _).alloc (by simp <;> omega) _).alloc (by simp <;> omega) _).alloc (by simp <;> omega) _).alloc (by simp <;> omega) _
      have k0 : Blk ((((((w.alloc (.cells #[.string (bs meth), .string (bs path), .string (bs query), .string host, .slice FA fn fc, .string (bs body)] 33)).alloc (.cells #[.bool false, .slice none 0 0, .int .i64 0, .string ⟨#[]⟩, .slice none 0 0, .slice none 0 0, .string ⟨#[]⟩] 42)).alloc (.cells #[.string ⟨#[]⟩, .string ⟨#[]⟩, .string ⟨#[]⟩, .string ⟨#[]⟩, .slice none 0 0, .string ⟨#[]⟩] 33)).alloc (.cells #[.bool true, .slice none 0 0, .int .i64 (1 + (c : Int)), .string ⟨#[47, 115, 114, 118]⟩, .slice (some ⟨w.heap.size + 1 + 1 + 1 + 1, 0, none⟩) 1 1, .slice (some ⟨w.heap.size + 1 + 1 + 1 + 1 + 1, 0, none⟩) 1 1, .string ⟨#[99, 47, 100]⟩] 42)).alloc (.cells #[.string ⟨#[120]⟩] 9)).alloc (.cells #[.string ⟨#[97, 13, 10, 98]⟩] 9)) (w.heap.size) 33 #[.string (bs meth), .string (bs path), .string (bs query), .string host, .slice FA fn fc, .string (bs body)] := by
        have := (((((Blk.new w 33 #[.string (bs meth), .string (bs path), .string (bs query), .string host, .slice FA fn fc, .string (bs body)]).alloc (.cells #[.bool false, .slice none 0 0, .int .i64 0, .string ⟨#[]⟩, .slice none 0 0, .slice none 0 0, .string ⟨#[]⟩] 42)).alloc (.cells #[.string ⟨#[]⟩, .string ⟨#[]⟩, .string ⟨#[]⟩, .string ⟨#[]⟩, .slice none 0 0, .string ⟨#[]⟩] 33)).alloc (.cells #[.bool true, .slice none 0 0, .int .i64 (1 + (c : Int)), .string ⟨#[47, 115, 114, 118]⟩, .slice (some ⟨w.heap.size + 1 + 1 + 1 + 1, 0, none⟩) 1 1, .slice (some ⟨w.heap.size + 1 + 1 + 1 + 1 + 1, 0, none⟩) 1 1, .string ⟨#[99, 47, 100]⟩] 42)).alloc (.cells #[.string ⟨#[120]⟩] 9)).alloc (.cells #[.string ⟨#[97, 13, 10, 98]⟩] 9)
        exact this
      have k1 : Blk ((((((w.alloc (.cells #[.string (bs meth), .string (bs path), .string (bs query), .string host, .slice FA fn fc, .string (bs body)] 33)).alloc (.cells #[.bool false, .slice none 0 0, .int .i64 0, .string ⟨#[]⟩, .slice none 0 0, .slice none 0 0, .string ⟨#[]⟩] 42)).alloc (.cells #[.string ⟨#[]⟩, .string ⟨#[]⟩, .string ⟨#[]⟩, .string ⟨#[]⟩, .slice none 0 0, .string ⟨#[]⟩] 33)).alloc (.cells #[.bool true, .slice none 0 0, .int .i64 (1 + (c : Int)), .string ⟨#[47, 115, 114, 118]⟩, .slice (some ⟨w.heap.size + 1 + 1 + 1 + 1, 0, none⟩) 1 1, .slice (some ⟨w.heap.size + 1 + 1 + 1 + 1 + 1, 0, none⟩) 1 1, .string ⟨#[99, 47, 100]⟩] 42)).alloc (.cells #[.string ⟨#[120]⟩] 9)).alloc (.cells #[.string ⟨#[97, 13, 10, 98]⟩] 9)) (w.heap.size + 1) 42 #[.bool false, .slice none 0 0, .int .i64 0, .string ⟨#[]⟩, .slice none 0 0, .slice none 0 0, .string ⟨#[]⟩] := by
        have := ((((Blk.new (w.alloc (.cells #[.string (bs meth), .string (bs path), .string (bs query), .string host, .slice FA fn fc, .string (bs body)] 33)) 42 #[.bool false, .slice none 0 0, .int .i64 0, .string ⟨#[]⟩, .slice none 0 0, .slice none 0 0, .string ⟨#[]⟩]).alloc (.cells #[.string ⟨#[]⟩, .string ⟨#[]⟩, .string ⟨#[]⟩, .string ⟨#[]⟩, .slice none 0 0, .string ⟨#[]⟩] 33)).alloc (.cells #[.bool true, .slice none 0 0, .int .i64 (1 + (c : Int)), .string ⟨#[47, 115, 114, 118]⟩, .slice (some ⟨w.heap.size + 1 + 1 + 1 + 1, 0, none⟩) 1 1, .slice (some ⟨w.heap.size + 1 + 1 + 1 + 1 + 1, 0, none⟩) 1 1, .string ⟨#[99, 47, 100]⟩] 42)).alloc (.cells #[.string ⟨#[120]⟩] 9)).alloc (.cells #[.string ⟨#[97, 13, 10, 98]⟩] 9)
        rw [show (w.alloc (.cells #[.string (bs meth), .string (bs path), .string (bs query), .string host, .slice FA fn fc, .string (bs body)] 33)).heap.size = w.heap.size + 1 by simp] at this
        exact this
      have k2 : Blk ((((((w.alloc (.cells #[.string (bs meth), .string (bs path), .string (bs query), .string host, .slice FA fn fc, .string (bs body)] 33)).alloc (.cells #[.bool false, .slice none 0 0, .int .i64 0, .string ⟨#[]⟩, .slice none 0 0, .slice none 0 0, .string ⟨#[]⟩] 42)).alloc (.cells #[.string ⟨#[]⟩, .string ⟨#[]⟩, .string ⟨#[]⟩, .string ⟨#[]⟩, .slice none 0 0, .string ⟨#[]⟩] 33)).alloc (.cells #[.bool true, .slice none 0 0, .int .i64 (1 + (c : Int)), .string ⟨#[47, 115, 114, 118]⟩, .slice (some ⟨w.heap.size + 1 + 1 + 1 + 1, 0, none⟩) 1 1, .slice (some ⟨w.heap.size + 1 + 1 + 1 + 1 + 1, 0, none⟩) 1 1, .string ⟨#[99, 47, 100]⟩] 42)).alloc (.cells #[.string ⟨#[120]⟩] 9)).alloc (.cells #[.string ⟨#[97, 13, 10, 98]⟩] 9)) (w.heap.size + 1 + 1) 33 #[.string ⟨#[]⟩, .string ⟨#[]⟩, .string ⟨#[]⟩, .string ⟨#[]⟩, .slice none 0 0, .string ⟨#[]⟩] := by
        have := (((Blk.new ((w.alloc (.cells #[.string (bs meth), .string (bs path), .string (bs query), .string host, .slice FA fn fc, .string (bs body)] 33)).alloc (.cells #[.bool false, .slice none 0 0, .int .i64 0, .string ⟨#[]⟩, .slice none 0 0, .slice none 0 0, .string ⟨#[]⟩] 42)) 33 #[.string ⟨#[]⟩, .string ⟨#[]⟩, .string ⟨#[]⟩, .string ⟨#[]⟩, .slice none 0 0, .string ⟨#[]⟩]).alloc (.cells #[.bool true, .slice none 0 0, .int .i64 (1 + (c : Int)), .string ⟨#[47, 115, 114, 118]⟩, .slice (some ⟨w.heap.size + 1 + 1 + 1 + 1, 0, none⟩) 1 1, .slice (some ⟨w.heap.size + 1 + 1 + 1 + 1 + 1, 0, none⟩) 1 1, .string ⟨#[99, 47, 100]⟩] 42)).alloc (.cells #[.string ⟨#[120]⟩] 9)).alloc (.cells #[.string ⟨#[97, 13, 10, 98]⟩] 9)
        rw [show ((w.alloc (.cells #[.string (bs meth), .string (bs path), .string (bs query), .string host, .slice FA fn fc, .string (bs body)] 33)).alloc (.cells #[.bool false, .slice none 0 0, .int .i64 0, .string ⟨#[]⟩, .slice none 0 0, .slice none 0 0, .string ⟨#[]⟩] 42)).heap.size = w.heap.size + 1 + 1 by simp] at this
        exact this
      have k3 : Blk ((((((w.alloc (.cells #[.string (bs meth), .string (bs path), .string (bs query), .string host, .slice FA fn fc, .string (bs body)] 33)).alloc (.cells #[.bool false, .slice none 0 0, .int .i64 0, .string ⟨#[]⟩, .slice none 0 0, .slice none 0 0, .string ⟨#[]⟩] 42)).alloc (.cells #[.string ⟨#[]⟩, .string ⟨#[]⟩, .string ⟨#[]⟩, .string ⟨#[]⟩, .slice none 0 0, .string ⟨#[]⟩] 33)).alloc (.cells #[.bool true, .slice none 0 0, .int .i64 (1 + (c : Int)), .string ⟨#[47, 115, 114, 118]⟩, .slice (some ⟨w.heap.size + 1 + 1 + 1 + 1, 0, none⟩) 1 1, .slice (some ⟨w.heap.size + 1 + 1 + 1 + 1 + 1, 0, none⟩) 1 1, .string ⟨#[99, 47, 100]⟩] 42)).alloc (.cells #[.string ⟨#[120]⟩] 9)).alloc (.cells #[.string ⟨#[97, 13, 10, 98]⟩] 9)) (w.heap.size + 1 + 1 + 1) 42 #[.bool true, .slice none 0 0, .int .i64 (1 + (c : Int)), .string ⟨#[47, 115, 114, 118]⟩, .slice (some ⟨w.heap.size + 1 + 1 + 1 + 1, 0, none⟩) 1 1, .slice (some ⟨w.heap.size + 1 + 1 + 1 + 1 + 1, 0, none⟩) 1 1, .string ⟨#[99, 47, 100]⟩] := by
        have := ((Blk.new (((w.alloc (.cells #[.string (bs meth), .string (bs path), .string (bs query), .string host, .slice FA fn fc, .string (bs body)] 33)).alloc (.cells #[.bool false, .slice none 0 0, .int .i64 0, .string ⟨#[]⟩, .slice none 0 0, .slice none 0 0, .string ⟨#[]⟩] 42)).alloc (.cells #[.string ⟨#[]⟩, .string ⟨#[]⟩, .string ⟨#[]⟩, .string ⟨#[]⟩, .slice none 0 0, .string ⟨#[]⟩] 33)) 42 #[.bool true, .slice none 0 0, .int .i64 (1 + (c : Int)), .string ⟨#[47, 115, 114, 118]⟩, .slice (some ⟨w.heap.size + 1 + 1 + 1 + 1, 0, none⟩) 1 1, .slice (some ⟨w.heap.size + 1 + 1 + 1 + 1 + 1, 0, none⟩) 1 1, .string ⟨#[99, 47, 100]⟩]).alloc (.cells #[.string ⟨#[120]⟩] 9)).alloc (.cells #[.string ⟨#[97, 13, 10, 98]⟩] 9)
        rw [show (((w.alloc (.cells #[.string (bs meth), .string (bs path), .string (bs query), .string host, .slice FA fn fc, .string (bs body)] 33)).alloc (.cells #[.bool false, .slice none 0 0, .int .i64 0, .string ⟨#[]⟩, .slice none 0 0, .slice none 0 0, .string ⟨#[]⟩] 42)).alloc (.cells #[.string ⟨#[]⟩, .string ⟨#[]⟩, .string ⟨#[]⟩, .string ⟨#[]⟩, .slice none 0 0, .string ⟨#[]⟩] 33)).heap.size = w.heap.size + 1 + 1 + 1 by simp] at this
        exact this
      have k4 : Blk ((((((w.alloc (.cells #[.string (bs meth), .string (bs path), .string (bs query), .string host, .slice FA fn fc, .string (bs body)] 33)).alloc (.cells #[.bool false, .slice none 0 0, .int .i64 0, .string ⟨#[]⟩, .slice none 0 0, .slice none 0 0, .string ⟨#[]⟩] 42)).alloc (.cells #[.string ⟨#[]⟩, .string ⟨#[]⟩, .string ⟨#[]⟩, .string ⟨#[]⟩, .slice none 0 0, .string ⟨#[]⟩] 33)).alloc (.cells #[.bool true, .slice none 0 0, .int .i64 (1 + (c : Int)), .string ⟨#[47, 115, 114, 118]⟩, .slice (some ⟨w.heap.size + 1 + 1 + 1 + 1, 0, none⟩) 1 1, .slice (some ⟨w.heap.size + 1 + 1 + 1 + 1 + 1, 0, none⟩) 1 1, .string ⟨#[99, 47, 100]⟩] 42)).alloc (.cells #[.string ⟨#[120]⟩] 9)).alloc (.cells #[.string ⟨#[97, 13, 10, 98]⟩] 9)) (w.heap.size + 1 + 1 + 1 + 1) 9 #[.string ⟨#[120]⟩] := by
        have := (Blk.new ((((w.alloc (.cells #[.string (bs meth), .string (bs path), .string (bs query), .string host, .slice FA fn fc, .string (bs body)] 33)).alloc (.cells #[.bool false, .slice none 0 0, .int .i64 0, .string ⟨#[]⟩, .slice none 0 0, .slice none 0 0, .string ⟨#[]⟩] 42)).alloc (.cells #[.string ⟨#[]⟩, .string ⟨#[]⟩, .string ⟨#[]⟩, .string ⟨#[]⟩, .slice none 0 0, .string ⟨#[]⟩] 33)).alloc (.cells #[.bool true, .slice none 0 0, .int .i64 (1 + (c : Int)), .string ⟨#[47, 115, 114, 118]⟩, .slice (some ⟨w.heap.size + 1 + 1 + 1 + 1, 0, none⟩) 1 1, .slice (some ⟨w.heap.size + 1 + 1 + 1 + 1 + 1, 0, none⟩) 1 1, .string ⟨#[99, 47, 100]⟩] 42)) 9 #[.string ⟨#[120]⟩]).alloc (.cells #[.string ⟨#[97, 13, 10, 98]⟩] 9)
        rw [show ((((w.alloc (.cells #[.string (bs meth), .string (bs path), .string (bs query), .string host, .slice FA fn fc, .string (bs body)] 33)).alloc (.cells #[.bool false, .slice none 0 0, .int .i64 0, .string ⟨#[]⟩, .slice none 0 0, .slice none 0 0, .string ⟨#[]⟩] 42)).alloc (.cells #[.string ⟨#[]⟩, .string ⟨#[]⟩, .string ⟨#[]⟩, .string ⟨#[]⟩, .slice none 0 0, .string ⟨#[]⟩] 33)).alloc (.cells #[.bool true, .slice none 0 0, .int .i64 (1 + (c : Int)), .string ⟨#[47, 115, 114, 118]⟩, .slice (some ⟨w.heap.size + 1 + 1 + 1 + 1, 0, none⟩) 1 1, .slice (some ⟨w.heap.size + 1 + 1 + 1 + 1 + 1, 0, none⟩) 1 1, .string ⟨#[99, 47, 100]⟩] 42)).heap.size = w.heap.size + 1 + 1 + 1 + 1 by simp] at this
        exact this
      have k5 : Blk ((((((w.alloc (.cells #[.string (bs meth), .string (bs path), .string (bs query), .string host, .slice FA fn fc, .string (bs body)] 33)).alloc (.cells #[.bool false, .slice none 0 0, .int .i64 0, .string ⟨#[]⟩, .slice none 0 0, .slice none 0 0, .string ⟨#[]⟩] 42)).alloc (.cells #[.string ⟨#[]⟩, .string ⟨#[]⟩, .string ⟨#[]⟩, .string ⟨#[]⟩, .slice none 0 0, .string ⟨#[]⟩] 33)).alloc (.cells #[.bool true, .slice none 0 0, .int .i64 (1 + (c : Int)), .string ⟨#[47, 115, 114, 118]⟩, .slice (some ⟨w.heap.size + 1 + 1 + 1 + 1, 0, none⟩) 1 1, .slice (some ⟨w.heap.size + 1 + 1 + 1 + 1 + 1, 0, none⟩) 1 1, .string ⟨#[99, 47, 100]⟩] 42)).alloc (.cells #[.string ⟨#[120]⟩] 9)).alloc (.cells #[.string ⟨#[97, 13, 10, 98]⟩] 9)) (w.heap.size + 1 + 1 + 1 + 1 + 1) 9 #[.string ⟨#[97, 13, 10, 98]⟩] := by
        have := Blk.new (((((w.alloc (.cells #[.string (bs meth), .string (bs path), .string (bs query), .string host, .slice FA fn fc, .string (bs body)] 33)).alloc (.cells #[.bool false, .slice none 0 0, .int .i64 0, .string ⟨#[]⟩, .slice none 0 0, .slice none 0 0, .string ⟨#[]⟩] 42)).alloc (.cells #[.string ⟨#[]⟩, .string ⟨#[]⟩, .string ⟨#[]⟩, .string ⟨#[]⟩, .slice none 0 0, .string ⟨#[]⟩] 33)).alloc (.cells #[.bool true, .slice none 0 0, .int .i64 (1 + (c : Int)), .string ⟨#[47, 115, 114, 118]⟩, .slice (some ⟨w.heap.size + 1 + 1 + 1 + 1, 0, none⟩) 1 1, .slice (some ⟨w.heap.size + 1 + 1 + 1 + 1 + 1, 0, none⟩) 1 1, .string ⟨#[99, 47, 100]⟩] 42)).alloc (.cells #[.string ⟨#[120]⟩] 9)) 9 #[.string ⟨#[97, 13, 10, 98]⟩]
        rw [show (((((w.alloc (.cells #[.string (bs meth), .string (bs path), .string (bs query), .string host, .slice FA fn fc, .string (bs body)] 33)).alloc (.cells #[.bool false, .slice none 0 0, .int .i64 0, .string ⟨#[]⟩, .slice none 0 0, .slice none 0 0, .string ⟨#[]⟩] 42)).alloc (.cells #[.string ⟨#[]⟩, .string ⟨#[]⟩, .string ⟨#[]⟩, .string ⟨#[]⟩, .slice none 0 0, .string ⟨#[]⟩] 33)).alloc (.cells #[.bool true, .slice none 0 0, .int .i64 (1 + (c : Int)), .string ⟨#[47, 115, 114, 118]⟩, .slice (some ⟨w.heap.size + 1 + 1 + 1 + 1, 0, none⟩) 1 1, .slice (some ⟨w.heap.size + 1 + 1 + 1 + 1 + 1, 0, none⟩) 1 1, .string ⟨#[99, 47, 100]⟩] 42)).alloc (.cells #[.string ⟨#[120]⟩] 9)).heap.size = w.heap.size + 1 + 1 + 1 + 1 + 1 by simp] at this
        exact this
      have HX := Lib.hid (show MadeCut w #[.string (bs meth), .string (bs path), .string (bs query), .string host, .slice FA fn fc, .string (bs body)] ((((((w.alloc (.cells #[.string (bs meth), .string (bs path), .string (bs query), .string host, .slice FA fn fc, .string (bs body)] 33)).alloc (.cells #[.bool false, .slice none 0 0, .int .i64 0, .string ⟨#[]⟩, .slice none 0 0, .slice none 0 0, .string ⟨#[]⟩] 42)).alloc (.cells #[.string ⟨#[]⟩, .string ⟨#[]⟩, .string ⟨#[]⟩, .string ⟨#[]⟩, .slice none 0 0, .string ⟨#[]⟩] 33)).alloc (.cells #[.bool true, .slice none 0 0, .int .i64 (1 + (c : Int)), .string ⟨#[47, 115, 114, 118]⟩, .slice (some ⟨w.heap.size + 1 + 1 + 1 + 1, 0, none⟩) 1 1, .slice (some ⟨w.heap.size + 1 + 1 + 1 + 1 + 1, 0, none⟩) 1 1, .string ⟨#[99, 47, 100]⟩] 42)).alloc (.cells #[.string ⟨#[120]⟩] 9)).alloc (.cells #[.string ⟨#[97, 13, 10, 98]⟩] 9)) from ⟨true, 1 + (c : Int), some ⟨w.heap.size + 1 + 1 + 1 + 1, 0, none⟩, some ⟨w.heap.size + 1 + 1 + 1 + 1 + 1, 0, none⟩, 1, 1, by omega, by omega, k0, k1, k2, k3, readsS (s := [120]) k4, readsS (s := [97, 13, 10, 98]) k5, (fun a e => by cases e; show w.heap.size + 1 + 1 + 1 < w.heap.size + 1 + 1 + 1 + 1; omega), (fun a e => by cases e; show w.heap.size + 1 + 1 + 1 < w.heap.size + 1 + 1 + 1 + 1 + 1; omega), bW⟩)
      clear bW k0 k1 k2 k3 k4 k5
      go_wp2_with fail
      go_meet
      exact ⟨rfl, HX⟩
  case rest =>
    obtain ⟨rfl, hM⟩ := hcut
    rename World => wx
    obtain ⟨b, kd, N, V, cn, cv, hk1, hk2, k0, k1, k2, k3, rN, rV, pN, pV, bW⟩ := hM.out
    have hHx : w.heap.size + 1 + 1 + 1 < wx.heap.size := k3.lt
    have k6 := Blk.new wx 9 #[.string ⟨#[71, 69, 84]⟩, .string ⟨#[72, 69, 65, 68]⟩, .string ⟨#[80, 79, 83, 84]⟩, .string ⟨#[80, 85, 84]⟩]
    have j0 := k0.alloc (.cells #[.string ⟨#[71, 69, 84]⟩, .string ⟨#[72, 69, 65, 68]⟩, .string ⟨#[80, 79, 83, 84]⟩, .string ⟨#[80, 85, 84]⟩] 9)
    have j1 := k1.alloc (.cells #[.string ⟨#[71, 69, 84]⟩, .string ⟨#[72, 69, 65, 68]⟩, .string ⟨#[80, 79, 83, 84]⟩, .string ⟨#[80, 85, 84]⟩] 9)
    have j2 := k2.alloc (.cells #[.string ⟨#[71, 69, 84]⟩, .string ⟨#[72, 69, 65, 68]⟩, .string ⟨#[80, 79, 83, 84]⟩, .string ⟨#[80, 85, 84]⟩] 9)
    have j3 := k3.alloc (.cells #[.string ⟨#[71, 69, 84]⟩, .string ⟨#[72, 69, 65, 68]⟩, .string ⟨#[80, 79, 83, 84]⟩, .string ⟨#[80, 85, 84]⟩] 9)
    have jW := bW.alloc bW.size (.cells #[.string ⟨#[71, 69, 84]⟩, .string ⟨#[72, 69, 65, 68]⟩, .string ⟨#[80, 79, 83, 84]⟩, .string ⟨#[80, 85, 84]⟩] 9)
    have jX := (Below.refl wx.heap.size wx).alloc (Nat.le_refl _) (.cells #[.string ⟨#[71, 69, 84]⟩, .string ⟨#[72, 69, 65, 68]⟩, .string ⟨#[80, 79, 83, 84]⟩, .string ⟨#[80, 85, 84]⟩] 9)
    have jN := (rN.below jX).more jX.size
    have jV := (rV.below jX).more jX.size
    clear k0 k1 k2 k3 bW rN rV hM jX
    obtain ⟨f, hf⟩ : ∃ f, madeF b kd = f := ⟨_, rfl⟩
    rw [hf] at j3 jN jV
    have HF := Lib.hid hf
    clear hf
    obtain ⟨M, hM, hMc⟩ := four_meth m hm4
    go_upto_region 8 with (fail)
    generalize wx.alloc (.cells #[.string ⟨#[71, 69, 84]⟩, .string ⟨#[72, 69, 65, 68]⟩, .string ⟨#[80, 79, 83, 84]⟩, .string ⟨#[80, 85, 84]⟩] 9) = W at k6 j0 j1 j2 j3 jN jV jW ⊢
    have im0 : (0 : Int) ≤ (m : Int) := by omega
    have im1 : (m : Int) < 4 := by omega
    have cM : W.cell? ⟨wx.heap.size, m, none⟩ = some (.string (bs M)) := (k6.cell m).trans hMc
    have cB1 : W.cell? ⟨w.heap.size, 1, none⟩ = some (.string (bs path)) := j0.cell 1
    have cB2 : W.cell? ⟨w.heap.size, 2, none⟩ = some (.string (bs query)) := j0.cell 2
    have cB5 : W.cell? ⟨w.heap.size, 5, none⟩ = some (.string (bs body)) := j0.cell 5
    have cL0 : W.cell? ⟨w.heap.size + 1 + 1 + 1, 0, none⟩ = some (.bool f.ok) := j3.cell 0
    have cL1 : W.cell? ⟨w.heap.size + 1 + 1 + 1, 1, none⟩ = some (.slice none f.segs.length 0) := j3.cell 1
    have cL2 : W.cell? ⟨w.heap.size + 1 + 1 + 1, 2, none⟩ = some (.int .i64 f.kind) := j3.cell 2
    have cL3 : W.cell? ⟨w.heap.size + 1 + 1 + 1, 3, none⟩ = some (.string (bs f.text)) := j3.cell 3
    have cL4 : W.cell? ⟨w.heap.size + 1 + 1 + 1, 4, none⟩ = some (.slice N f.names.length cn) := j3.cell 4
    have cL5 : W.cell? ⟨w.heap.size + 1 + 1 + 1, 5, none⟩ = some (.slice V f.vals.length cv) := j3.cell 5
    have cL6 : W.cell? ⟨w.heap.size + 1 + 1 + 1, 6, none⟩ = some (.string (bs f.rest)) := j3.cell 6
    have fF0 := j1.frozen 0
    have cF0 : W.cell? ⟨w.heap.size + 1, 0, none⟩ = some (.bool false) := j1.cell 0
    have fF1 := j1.frozen 1
    have cF1 : W.cell? ⟨w.heap.size + 1, 1, none⟩ = some (.slice none 0 0) := j1.cell 1
    have fF2 := j1.frozen 2
    have cF2 : W.cell? ⟨w.heap.size + 1, 2, none⟩ = some (.int .i64 0) := j1.cell 2
    have fF3 := j1.frozen 3
    have cF3 : W.cell? ⟨w.heap.size + 1, 3, none⟩ = some (.string ⟨#[]⟩) := j1.cell 3
    have fF4 := j1.frozen 4
    have cF4 : W.cell? ⟨w.heap.size + 1, 4, none⟩ = some (.slice none 0 0) := j1.cell 4
    have fF5 := j1.frozen 5
    have cF5 : W.cell? ⟨w.heap.size + 1, 5, none⟩ = some (.slice none 0 0) := j1.cell 5
    have fF6 := j1.frozen 6
    have cF6 : W.cell? ⟨w.heap.size + 1, 6, none⟩ = some (.string ⟨#[]⟩) := j1.cell 6
    have fR0 := j2.frozen 0
    have cR0 : W.cell? ⟨w.heap.size + 1 + 1, 0, none⟩ = some (.string ⟨#[]⟩) := j2.cell 0
    have fR1 := j2.frozen 1
    have cR1 : W.cell? ⟨w.heap.size + 1 + 1, 1, none⟩ = some (.string ⟨#[]⟩) := j2.cell 1
    have fR2 := j2.frozen 2
    have cR2 : W.cell? ⟨w.heap.size + 1 + 1, 2, none⟩ = some (.string ⟨#[]⟩) := j2.cell 2
    have fR3 := j2.frozen 3
    have cR3 : W.cell? ⟨w.heap.size + 1 + 1, 3, none⟩ = some (.string ⟨#[]⟩) := j2.cell 3
    have fR4 := j2.frozen 4
    have cR4 : W.cell? ⟨w.heap.size + 1 + 1, 4, none⟩ = some (.slice none 0 0) := j2.cell 4
    have fR5 := j2.frozen 5
    have cR5 : W.cell? ⟨w.heap.size + 1 + 1, 5, none⟩ = some (.string ⟨#[]⟩) := j2.cell 5
    obtain ⟨lp, hlp⟩ : ∃ l, min path.length 40 = l := ⟨_, rfl⟩
    have mlp : min (path.length : Int) 40 = (lp : Int) := by omega
    have alp : (0 : Int) ≤ (lp : Int) := by omega
    have blp : (lp : Int) ≤ (path.length : Int) := by omega
    have xlp := cutL path lp
    have ylp : (path.take lp).length ≤ 40 := by rw [List.length_take]; omega
    obtain ⟨lq, hlq⟩ : ∃ l, min query.length 40 = l := ⟨_, rfl⟩
    have mlq : min (query.length : Int) 40 = (lq : Int) := by omega
    have alq : (0 : Int) ≤ (lq : Int) := by omega
    have blq : (lq : Int) ≤ (query.length : Int) := by omega
    have xlq := cutL query lq
    have ylq : (query.take lq).length ≤ 40 := by rw [List.length_take]; omega
    obtain ⟨lb, hlb⟩ : ∃ l, min body.length 60 = l := ⟨_, rfl⟩
    have mlb : min (body.length : Int) 60 = (lb : Int) := by omega
    have alb : (0 : Int) ≤ (lb : Int) := by omega
    have blb : (lb : Int) ≤ (body.length : Int) := by omega
    have xlb := cutL body lb
    have ylb : (body.take lb).length ≤ 60 := by rw [List.length_take]; omega
    obtain ⟨PP, hPP⟩ : ∃ l, path.take lp = l := ⟨_, rfl⟩
    rw [hPP] at xlp ylp
    obtain ⟨QQ, hQQ⟩ : ∃ l, query.take lq = l := ⟨_, rfl⟩
    rw [hQQ] at xlq ylq
    obtain ⟨BB, hBB⟩ : ∃ l, body.take lb = l := ⟨_, rfl⟩
    rw [hBB] at xlb ylb
    have zP := bs_size PP
    have sP : ¬ 9223372036854775807 < 1 + PP.length := by omega
    have sP2 : ¬ 9223372036854775806 < PP.length := by omega
    have HPP : (⟨#[47]⟩ : ByteArray) ++ bs PP = bs (47 :: PP) := by rw [show (⟨#[47]⟩ : ByteArray) = bs [47] from rfl, bs_app]; rfl
    obtain ⟨SP, hSP⟩ : ∃ SP, (⟨#[47]⟩ : ByteArray) ++ bs PP = SP := ⟨_, rfl⟩
    have HSP := Lib.hid (hSP.symm.trans HPP)
    have FIN := Lib.hid (fin67 (B := w.heap.size) (V := w) j1 j2 (by omega) jW (by omega) (by omega) (.bool f.ok) (.slice none f.segs.length 0) (.int .i64 f.kind) (.string (bs f.text)) (.slice N f.names.length cn) (.slice V f.vals.length cv) (.string (bs f.rest)) (.string (bs M)) (.string SP) (.string (bs QQ)) (.string ⟨#[]⟩) (.slice none 0 0) (.string (bs BB)))
    have qN := reads67 jN (g := w.heap.size + 1) (k := w.heap.size + 1 + 1) (fun a e => by have := pN a e; omega) (fun a e => by have := pN a e; omega) (.bool f.ok) (.slice none f.segs.length 0) (.int .i64 f.kind) (.string (bs f.text)) (.slice N f.names.length cn) (.slice V f.vals.length cv) (.string (bs f.rest)) (.string (bs M)) (.string SP) (.string (bs QQ)) (.string ⟨#[]⟩) (.slice none 0 0) (.string (bs BB))
    have qV := reads67 jV (g := w.heap.size + 1) (k := w.heap.size + 1 + 1) (fun a e => by have := pV a e; omega) (fun a e => by have := pV a e; omega) (.bool f.ok) (.slice none f.segs.length 0) (.int .i64 f.kind) (.string (bs f.text)) (.slice N f.names.length cn) (.slice V f.vals.length cv) (.string (bs f.rest)) (.string (bs M)) (.string SP) (.string (bs QQ)) (.string ⟨#[]⟩) (.slice none 0 0) (.string (bs BB))
    unfold set6 set7 at qN qV
    have HNV := Lib.hid (And.intro qN qV)
    clear qN qV pN pV
    have HY := Lib.hid (And.intro hM (And.intro ylp (And.intro ylq ylb)))
    have SA : (set7 W (w.heap.size + 1) (.bool f.ok) (.slice none f.segs.length 0) (.int .i64 f.kind) (.string (bs f.text)) (.slice N f.names.length cn) (.slice V f.vals.length cv) (.string (bs f.rest))).drew.cell? ⟨wx.heap.size, m, none⟩ = some (.string (bs M)) ∧ (set7 W (w.heap.size + 1) (.bool f.ok) (.slice none f.segs.length 0) (.int .i64 f.kind) (.string (bs f.text)) (.slice N f.names.length cn) (.slice V f.vals.length cv) (.string (bs f.rest))).drew.cell? ⟨w.heap.size, 1, none⟩ = some (.string (bs path)) ∧ (set7 W (w.heap.size + 1) (.bool f.ok) (.slice none f.segs.length 0) (.int .i64 f.kind) (.string (bs f.text)) (.slice N f.names.length cn) (.slice V f.vals.length cv) (.string (bs f.rest))).drew.cell? ⟨w.heap.size, 2, none⟩ = some (.string (bs query)) ∧ (set7 W (w.heap.size + 1) (.bool f.ok) (.slice none f.segs.length 0) (.int .i64 f.kind) (.string (bs f.text)) (.slice N f.names.length cn) (.slice V f.vals.length cv) (.string (bs f.rest))).drew.cell? ⟨w.heap.size, 5, none⟩ = some (.string (bs body)) ∧ (set7 W (w.heap.size + 1) (.bool f.ok) (.slice none f.segs.length 0) (.int .i64 f.kind) (.string (bs f.text)) (.slice N f.names.length cn) (.slice V f.vals.length cv) (.string (bs f.rest))).drew.cell? ⟨w.heap.size + 1 + 1 + 1, 0, none⟩ = some (.bool f.ok) ∧ (set7 W (w.heap.size + 1) (.bool f.ok) (.slice none f.segs.length 0) (.int .i64 f.kind) (.string (bs f.text)) (.slice N f.names.length cn) (.slice V f.vals.length cv) (.string (bs f.rest))).drew.cell? ⟨w.heap.size + 1 + 1 + 1, 1, none⟩ = some (.slice none f.segs.length 0) ∧ (set7 W (w.heap.size + 1) (.bool f.ok) (.slice none f.segs.length 0) (.int .i64 f.kind) (.string (bs f.text)) (.slice N f.names.length cn) (.slice V f.vals.length cv) (.string (bs f.rest))).drew.cell? ⟨w.heap.size + 1 + 1 + 1, 2, none⟩ = some (.int .i64 f.kind) ∧ (set7 W (w.heap.size + 1) (.bool f.ok) (.slice none f.segs.length 0) (.int .i64 f.kind) (.string (bs f.text)) (.slice N f.names.length cn) (.slice V f.vals.length cv) (.string (bs f.rest))).drew.cell? ⟨w.heap.size + 1 + 1 + 1, 3, none⟩ = some (.string (bs f.text)) ∧ (set7 W (w.heap.size + 1) (.bool f.ok) (.slice none f.segs.length 0) (.int .i64 f.kind) (.string (bs f.text)) (.slice N f.names.length cn) (.slice V f.vals.length cv) (.string (bs f.rest))).drew.cell? ⟨w.heap.size + 1 + 1 + 1, 4, none⟩ = some (.slice N f.names.length cn) ∧ (set7 W (w.heap.size + 1) (.bool f.ok) (.slice none f.segs.length 0) (.int .i64 f.kind) (.string (bs f.text)) (.slice N f.names.length cn) (.slice V f.vals.length cv) (.string (bs f.rest))).drew.cell? ⟨w.heap.size + 1 + 1 + 1, 5, none⟩ = some (.slice V f.vals.length cv) ∧ (set7 W (w.heap.size + 1) (.bool f.ok) (.slice none f.segs.length 0) (.int .i64 f.kind) (.string (bs f.text)) (.slice N f.names.length cn) (.slice V f.vals.length cv) (.string (bs f.rest))).drew.cell? ⟨w.heap.size + 1 + 1 + 1, 6, none⟩ = some (.string (bs f.rest)) := ⟨((far7 k6 (g := w.heap.size + 1) (by omega) (.bool f.ok) (.slice none f.segs.length 0) (.int .i64 f.kind) (.string (bs f.text)) (.slice N f.names.length cn) (.slice V f.vals.length cv) (.string (bs f.rest))).drew.cell m).trans hMc, (far7 j0 (g := w.heap.size + 1) (by omega) (.bool f.ok) (.slice none f.segs.length 0) (.int .i64 f.kind) (.string (bs f.text)) (.slice N f.names.length cn) (.slice V f.vals.length cv) (.string (bs f.rest))).drew.cell 1, (far7 j0 (g := w.heap.size + 1) (by omega) (.bool f.ok) (.slice none f.segs.length 0) (.int .i64 f.kind) (.string (bs f.text)) (.slice N f.names.length cn) (.slice V f.vals.length cv) (.string (bs f.rest))).drew.cell 2, (far7 j0 (g := w.heap.size + 1) (by omega) (.bool f.ok) (.slice none f.segs.length 0) (.int .i64 f.kind) (.string (bs f.text)) (.slice N f.names.length cn) (.slice V f.vals.length cv) (.string (bs f.rest))).drew.cell 5, (far7 j3 (g := w.heap.size + 1) (by omega) (.bool f.ok) (.slice none f.segs.length 0) (.int .i64 f.kind) (.string (bs f.text)) (.slice N f.names.length cn) (.slice V f.vals.length cv) (.string (bs f.rest))).drew.cell 0, (far7 j3 (g := w.heap.size + 1) (by omega) (.bool f.ok) (.slice none f.segs.length 0) (.int .i64 f.kind) (.string (bs f.text)) (.slice N f.names.length cn) (.slice V f.vals.length cv) (.string (bs f.rest))).drew.cell 1, (far7 j3 (g := w.heap.size + 1) (by omega) (.bool f.ok) (.slice none f.segs.length 0) (.int .i64 f.kind) (.string (bs f.text)) (.slice N f.names.length cn) (.slice V f.vals.length cv) (.string (bs f.rest))).drew.cell 2, (far7 j3 (g := w.heap.size + 1) (by omega) (.bool f.ok) (.slice none f.segs.length 0) (.int .i64 f.kind) (.string (bs f.text)) (.slice N f.names.length cn) (.slice V f.vals.length cv) (.string (bs f.rest))).drew.cell 3, (far7 j3 (g := w.heap.size + 1) (by omega) (.bool f.ok) (.slice none f.segs.length 0) (.int .i64 f.kind) (.string (bs f.text)) (.slice N f.names.length cn) (.slice V f.vals.length cv) (.string (bs f.rest))).drew.cell 4, (far7 j3 (g := w.heap.size + 1) (by omega) (.bool f.ok) (.slice none f.segs.length 0) (.int .i64 f.kind) (.string (bs f.text)) (.slice N f.names.length cn) (.slice V f.vals.length cv) (.string (bs f.rest))).drew.cell 5, (far7 j3 (g := w.heap.size + 1) (by omega) (.bool f.ok) (.slice none f.segs.length 0) (.int .i64 f.kind) (.string (bs f.text)) (.slice N f.names.length cn) (.slice V f.vals.length cv) (.string (bs f.rest))).drew.cell 6⟩
    have SB : (set6 W (w.heap.size + 1 + 1) (.string (bs M)) (.string SP) (.string (bs QQ)) (.string ⟨#[]⟩) (.slice none 0 0) (.string (bs BB))).drew.cell? ⟨wx.heap.size, m, none⟩ = some (.string (bs M)) ∧ (set6 W (w.heap.size + 1 + 1) (.string (bs M)) (.string SP) (.string (bs QQ)) (.string ⟨#[]⟩) (.slice none 0 0) (.string (bs BB))).drew.cell? ⟨w.heap.size, 1, none⟩ = some (.string (bs path)) ∧ (set6 W (w.heap.size + 1 + 1) (.string (bs M)) (.string SP) (.string (bs QQ)) (.string ⟨#[]⟩) (.slice none 0 0) (.string (bs BB))).drew.cell? ⟨w.heap.size, 2, none⟩ = some (.string (bs query)) ∧ (set6 W (w.heap.size + 1 + 1) (.string (bs M)) (.string SP) (.string (bs QQ)) (.string ⟨#[]⟩) (.slice none 0 0) (.string (bs BB))).drew.cell? ⟨w.heap.size, 5, none⟩ = some (.string (bs body)) ∧ (set6 W (w.heap.size + 1 + 1) (.string (bs M)) (.string SP) (.string (bs QQ)) (.string ⟨#[]⟩) (.slice none 0 0) (.string (bs BB))).drew.cell? ⟨w.heap.size + 1 + 1 + 1, 0, none⟩ = some (.bool f.ok) ∧ (set6 W (w.heap.size + 1 + 1) (.string (bs M)) (.string SP) (.string (bs QQ)) (.string ⟨#[]⟩) (.slice none 0 0) (.string (bs BB))).drew.cell? ⟨w.heap.size + 1 + 1 + 1, 1, none⟩ = some (.slice none f.segs.length 0) ∧ (set6 W (w.heap.size + 1 + 1) (.string (bs M)) (.string SP) (.string (bs QQ)) (.string ⟨#[]⟩) (.slice none 0 0) (.string (bs BB))).drew.cell? ⟨w.heap.size + 1 + 1 + 1, 2, none⟩ = some (.int .i64 f.kind) ∧ (set6 W (w.heap.size + 1 + 1) (.string (bs M)) (.string SP) (.string (bs QQ)) (.string ⟨#[]⟩) (.slice none 0 0) (.string (bs BB))).drew.cell? ⟨w.heap.size + 1 + 1 + 1, 3, none⟩ = some (.string (bs f.text)) ∧ (set6 W (w.heap.size + 1 + 1) (.string (bs M)) (.string SP) (.string (bs QQ)) (.string ⟨#[]⟩) (.slice none 0 0) (.string (bs BB))).drew.cell? ⟨w.heap.size + 1 + 1 + 1, 4, none⟩ = some (.slice N f.names.length cn) ∧ (set6 W (w.heap.size + 1 + 1) (.string (bs M)) (.string SP) (.string (bs QQ)) (.string ⟨#[]⟩) (.slice none 0 0) (.string (bs BB))).drew.cell? ⟨w.heap.size + 1 + 1 + 1, 5, none⟩ = some (.slice V f.vals.length cv) ∧ (set6 W (w.heap.size + 1 + 1) (.string (bs M)) (.string SP) (.string (bs QQ)) (.string ⟨#[]⟩) (.slice none 0 0) (.string (bs BB))).drew.cell? ⟨w.heap.size + 1 + 1 + 1, 6, none⟩ = some (.string (bs f.rest)) := ⟨((far6 k6 (g := w.heap.size + 1 + 1) (by omega) (.string (bs M)) (.string SP) (.string (bs QQ)) (.string ⟨#[]⟩) (.slice none 0 0) (.string (bs BB))).drew.cell m).trans hMc, (far6 j0 (g := w.heap.size + 1 + 1) (by omega) (.string (bs M)) (.string SP) (.string (bs QQ)) (.string ⟨#[]⟩) (.slice none 0 0) (.string (bs BB))).drew.cell 1, (far6 j0 (g := w.heap.size + 1 + 1) (by omega) (.string (bs M)) (.string SP) (.string (bs QQ)) (.string ⟨#[]⟩) (.slice none 0 0) (.string (bs BB))).drew.cell 2, (far6 j0 (g := w.heap.size + 1 + 1) (by omega) (.string (bs M)) (.string SP) (.string (bs QQ)) (.string ⟨#[]⟩) (.slice none 0 0) (.string (bs BB))).drew.cell 5, (far6 j3 (g := w.heap.size + 1 + 1) (by omega) (.string (bs M)) (.string SP) (.string (bs QQ)) (.string ⟨#[]⟩) (.slice none 0 0) (.string (bs BB))).drew.cell 0, (far6 j3 (g := w.heap.size + 1 + 1) (by omega) (.string (bs M)) (.string SP) (.string (bs QQ)) (.string ⟨#[]⟩) (.slice none 0 0) (.string (bs BB))).drew.cell 1, (far6 j3 (g := w.heap.size + 1 + 1) (by omega) (.string (bs M)) (.string SP) (.string (bs QQ)) (.string ⟨#[]⟩) (.slice none 0 0) (.string (bs BB))).drew.cell 2, (far6 j3 (g := w.heap.size + 1 + 1) (by omega) (.string (bs M)) (.string SP) (.string (bs QQ)) (.string ⟨#[]⟩) (.slice none 0 0) (.string (bs BB))).drew.cell 3, (far6 j3 (g := w.heap.size + 1 + 1) (by omega) (.string (bs M)) (.string SP) (.string (bs QQ)) (.string ⟨#[]⟩) (.slice none 0 0) (.string (bs BB))).drew.cell 4, (far6 j3 (g := w.heap.size + 1 + 1) (by omega) (.string (bs M)) (.string SP) (.string (bs QQ)) (.string ⟨#[]⟩) (.slice none 0 0) (.string (bs BB))).drew.cell 5, (far6 j3 (g := w.heap.size + 1 + 1) (by omega) (.string (bs M)) (.string SP) (.string (bs QQ)) (.string ⟨#[]⟩) (.slice none 0 0) (.string (bs BB))).drew.cell 6⟩
    have SAB : (set6 (set7 W (w.heap.size + 1) (.bool f.ok) (.slice none f.segs.length 0) (.int .i64 f.kind) (.string (bs f.text)) (.slice N f.names.length cn) (.slice V f.vals.length cv) (.string (bs f.rest))) (w.heap.size + 1 + 1) (.string (bs M)) (.string SP) (.string (bs QQ)) (.string ⟨#[]⟩) (.slice none 0 0) (.string (bs BB))).drew.cell? ⟨wx.heap.size, m, none⟩ = some (.string (bs M)) ∧ (set6 (set7 W (w.heap.size + 1) (.bool f.ok) (.slice none f.segs.length 0) (.int .i64 f.kind) (.string (bs f.text)) (.slice N f.names.length cn) (.slice V f.vals.length cv) (.string (bs f.rest))) (w.heap.size + 1 + 1) (.string (bs M)) (.string SP) (.string (bs QQ)) (.string ⟨#[]⟩) (.slice none 0 0) (.string (bs BB))).drew.cell? ⟨w.heap.size, 1, none⟩ = some (.string (bs path)) ∧ (set6 (set7 W (w.heap.size + 1) (.bool f.ok) (.slice none f.segs.length 0) (.int .i64 f.kind) (.string (bs f.text)) (.slice N f.names.length cn) (.slice V f.vals.length cv) (.string (bs f.rest))) (w.heap.size + 1 + 1) (.string (bs M)) (.string SP) (.string (bs QQ)) (.string ⟨#[]⟩) (.slice none 0 0) (.string (bs BB))).drew.cell? ⟨w.heap.size, 2, none⟩ = some (.string (bs query)) ∧ (set6 (set7 W (w.heap.size + 1) (.bool f.ok) (.slice none f.segs.length 0) (.int .i64 f.kind) (.string (bs f.text)) (.slice N f.names.length cn) (.slice V f.vals.length cv) (.string (bs f.rest))) (w.heap.size + 1 + 1) (.string (bs M)) (.string SP) (.string (bs QQ)) (.string ⟨#[]⟩) (.slice none 0 0) (.string (bs BB))).drew.cell? ⟨w.heap.size, 5, none⟩ = some (.string (bs body)) ∧ (set6 (set7 W (w.heap.size + 1) (.bool f.ok) (.slice none f.segs.length 0) (.int .i64 f.kind) (.string (bs f.text)) (.slice N f.names.length cn) (.slice V f.vals.length cv) (.string (bs f.rest))) (w.heap.size + 1 + 1) (.string (bs M)) (.string SP) (.string (bs QQ)) (.string ⟨#[]⟩) (.slice none 0 0) (.string (bs BB))).drew.cell? ⟨w.heap.size + 1 + 1 + 1, 0, none⟩ = some (.bool f.ok) ∧ (set6 (set7 W (w.heap.size + 1) (.bool f.ok) (.slice none f.segs.length 0) (.int .i64 f.kind) (.string (bs f.text)) (.slice N f.names.length cn) (.slice V f.vals.length cv) (.string (bs f.rest))) (w.heap.size + 1 + 1) (.string (bs M)) (.string SP) (.string (bs QQ)) (.string ⟨#[]⟩) (.slice none 0 0) (.string (bs BB))).drew.cell? ⟨w.heap.size + 1 + 1 + 1, 1, none⟩ = some (.slice none f.segs.length 0) ∧ (set6 (set7 W (w.heap.size + 1) (.bool f.ok) (.slice none f.segs.length 0) (.int .i64 f.kind) (.string (bs f.text)) (.slice N f.names.length cn) (.slice V f.vals.length cv) (.string (bs f.rest))) (w.heap.size + 1 + 1) (.string (bs M)) (.string SP) (.string (bs QQ)) (.string ⟨#[]⟩) (.slice none 0 0) (.string (bs BB))).drew.cell? ⟨w.heap.size + 1 + 1 + 1, 2, none⟩ = some (.int .i64 f.kind) ∧ (set6 (set7 W (w.heap.size + 1) (.bool f.ok) (.slice none f.segs.length 0) (.int .i64 f.kind) (.string (bs f.text)) (.slice N f.names.length cn) (.slice V f.vals.length cv) (.string (bs f.rest))) (w.heap.size + 1 + 1) (.string (bs M)) (.string SP) (.string (bs QQ)) (.string ⟨#[]⟩) (.slice none 0 0) (.string (bs BB))).drew.cell? ⟨w.heap.size + 1 + 1 + 1, 3, none⟩ = some (.string (bs f.text)) ∧ (set6 (set7 W (w.heap.size + 1) (.bool f.ok) (.slice none f.segs.length 0) (.int .i64 f.kind) (.string (bs f.text)) (.slice N f.names.length cn) (.slice V f.vals.length cv) (.string (bs f.rest))) (w.heap.size + 1 + 1) (.string (bs M)) (.string SP) (.string (bs QQ)) (.string ⟨#[]⟩) (.slice none 0 0) (.string (bs BB))).drew.cell? ⟨w.heap.size + 1 + 1 + 1, 4, none⟩ = some (.slice N f.names.length cn) ∧ (set6 (set7 W (w.heap.size + 1) (.bool f.ok) (.slice none f.segs.length 0) (.int .i64 f.kind) (.string (bs f.text)) (.slice N f.names.length cn) (.slice V f.vals.length cv) (.string (bs f.rest))) (w.heap.size + 1 + 1) (.string (bs M)) (.string SP) (.string (bs QQ)) (.string ⟨#[]⟩) (.slice none 0 0) (.string (bs BB))).drew.cell? ⟨w.heap.size + 1 + 1 + 1, 5, none⟩ = some (.slice V f.vals.length cv) ∧ (set6 (set7 W (w.heap.size + 1) (.bool f.ok) (.slice none f.segs.length 0) (.int .i64 f.kind) (.string (bs f.text)) (.slice N f.names.length cn) (.slice V f.vals.length cv) (.string (bs f.rest))) (w.heap.size + 1 + 1) (.string (bs M)) (.string SP) (.string (bs QQ)) (.string ⟨#[]⟩) (.slice none 0 0) (.string (bs BB))).drew.cell? ⟨w.heap.size + 1 + 1 + 1, 6, none⟩ = some (.string (bs f.rest)) := ⟨((far6 (far7 k6 (g := w.heap.size + 1) (by omega) (.bool f.ok) (.slice none f.segs.length 0) (.int .i64 f.kind) (.string (bs f.text)) (.slice N f.names.length cn) (.slice V f.vals.length cv) (.string (bs f.rest))) (g := w.heap.size + 1 + 1) (by omega) (.string (bs M)) (.string SP) (.string (bs QQ)) (.string ⟨#[]⟩) (.slice none 0 0) (.string (bs BB))).drew.cell m).trans hMc, (far6 (far7 j0 (g := w.heap.size + 1) (by omega) (.bool f.ok) (.slice none f.segs.length 0) (.int .i64 f.kind) (.string (bs f.text)) (.slice N f.names.length cn) (.slice V f.vals.length cv) (.string (bs f.rest))) (g := w.heap.size + 1 + 1) (by omega) (.string (bs M)) (.string SP) (.string (bs QQ)) (.string ⟨#[]⟩) (.slice none 0 0) (.string (bs BB))).drew.cell 1, (far6 (far7 j0 (g := w.heap.size + 1) (by omega) (.bool f.ok) (.slice none f.segs.length 0) (.int .i64 f.kind) (.string (bs f.text)) (.slice N f.names.length cn) (.slice V f.vals.length cv) (.string (bs f.rest))) (g := w.heap.size + 1 + 1) (by omega) (.string (bs M)) (.string SP) (.string (bs QQ)) (.string ⟨#[]⟩) (.slice none 0 0) (.string (bs BB))).drew.cell 2, (far6 (far7 j0 (g := w.heap.size + 1) (by omega) (.bool f.ok) (.slice none f.segs.length 0) (.int .i64 f.kind) (.string (bs f.text)) (.slice N f.names.length cn) (.slice V f.vals.length cv) (.string (bs f.rest))) (g := w.heap.size + 1 + 1) (by omega) (.string (bs M)) (.string SP) (.string (bs QQ)) (.string ⟨#[]⟩) (.slice none 0 0) (.string (bs BB))).drew.cell 5, (far6 (far7 j3 (g := w.heap.size + 1) (by omega) (.bool f.ok) (.slice none f.segs.length 0) (.int .i64 f.kind) (.string (bs f.text)) (.slice N f.names.length cn) (.slice V f.vals.length cv) (.string (bs f.rest))) (g := w.heap.size + 1 + 1) (by omega) (.string (bs M)) (.string SP) (.string (bs QQ)) (.string ⟨#[]⟩) (.slice none 0 0) (.string (bs BB))).drew.cell 0, (far6 (far7 j3 (g := w.heap.size + 1) (by omega) (.bool f.ok) (.slice none f.segs.length 0) (.int .i64 f.kind) (.string (bs f.text)) (.slice N f.names.length cn) (.slice V f.vals.length cv) (.string (bs f.rest))) (g := w.heap.size + 1 + 1) (by omega) (.string (bs M)) (.string SP) (.string (bs QQ)) (.string ⟨#[]⟩) (.slice none 0 0) (.string (bs BB))).drew.cell 1, (far6 (far7 j3 (g := w.heap.size + 1) (by omega) (.bool f.ok) (.slice none f.segs.length 0) (.int .i64 f.kind) (.string (bs f.text)) (.slice N f.names.length cn) (.slice V f.vals.length cv) (.string (bs f.rest))) (g := w.heap.size + 1 + 1) (by omega) (.string (bs M)) (.string SP) (.string (bs QQ)) (.string ⟨#[]⟩) (.slice none 0 0) (.string (bs BB))).drew.cell 2, (far6 (far7 j3 (g := w.heap.size + 1) (by omega) (.bool f.ok) (.slice none f.segs.length 0) (.int .i64 f.kind) (.string (bs f.text)) (.slice N f.names.length cn) (.slice V f.vals.length cv) (.string (bs f.rest))) (g := w.heap.size + 1 + 1) (by omega) (.string (bs M)) (.string SP) (.string (bs QQ)) (.string ⟨#[]⟩) (.slice none 0 0) (.string (bs BB))).drew.cell 3, (far6 (far7 j3 (g := w.heap.size + 1) (by omega) (.bool f.ok) (.slice none f.segs.length 0) (.int .i64 f.kind) (.string (bs f.text)) (.slice N f.names.length cn) (.slice V f.vals.length cv) (.string (bs f.rest))) (g := w.heap.size + 1 + 1) (by omega) (.string (bs M)) (.string SP) (.string (bs QQ)) (.string ⟨#[]⟩) (.slice none 0 0) (.string (bs BB))).drew.cell 4, (far6 (far7 j3 (g := w.heap.size + 1) (by omega) (.bool f.ok) (.slice none f.segs.length 0) (.int .i64 f.kind) (.string (bs f.text)) (.slice N f.names.length cn) (.slice V f.vals.length cv) (.string (bs f.rest))) (g := w.heap.size + 1 + 1) (by omega) (.string (bs M)) (.string SP) (.string (bs QQ)) (.string ⟨#[]⟩) (.slice none 0 0) (.string (bs BB))).drew.cell 5, (far6 (far7 j3 (g := w.heap.size + 1) (by omega) (.bool f.ok) (.slice none f.segs.length 0) (.int .i64 f.kind) (.string (bs f.text)) (.slice N f.names.length cn) (.slice V f.vals.length cv) (.string (bs f.rest))) (g := w.heap.size + 1 + 1) (by omega) (.string (bs M)) (.string SP) (.string (bs QQ)) (.string ⟨#[]⟩) (.slice none 0 0) (.string (bs BB))).drew.cell 6⟩
    have SBA : (set7 (set6 W (w.heap.size + 1 + 1) (.string (bs M)) (.string SP) (.string (bs QQ)) (.string ⟨#[]⟩) (.slice none 0 0) (.string (bs BB))) (w.heap.size + 1) (.bool f.ok) (.slice none f.segs.length 0) (.int .i64 f.kind) (.string (bs f.text)) (.slice N f.names.length cn) (.slice V f.vals.length cv) (.string (bs f.rest))).drew.cell? ⟨wx.heap.size, m, none⟩ = some (.string (bs M)) ∧ (set7 (set6 W (w.heap.size + 1 + 1) (.string (bs M)) (.string SP) (.string (bs QQ)) (.string ⟨#[]⟩) (.slice none 0 0) (.string (bs BB))) (w.heap.size + 1) (.bool f.ok) (.slice none f.segs.length 0) (.int .i64 f.kind) (.string (bs f.text)) (.slice N f.names.length cn) (.slice V f.vals.length cv) (.string (bs f.rest))).drew.cell? ⟨w.heap.size, 1, none⟩ = some (.string (bs path)) ∧ (set7 (set6 W (w.heap.size + 1 + 1) (.string (bs M)) (.string SP) (.string (bs QQ)) (.string ⟨#[]⟩) (.slice none 0 0) (.string (bs BB))) (w.heap.size + 1) (.bool f.ok) (.slice none f.segs.length 0) (.int .i64 f.kind) (.string (bs f.text)) (.slice N f.names.length cn) (.slice V f.vals.length cv) (.string (bs f.rest))).drew.cell? ⟨w.heap.size, 2, none⟩ = some (.string (bs query)) ∧ (set7 (set6 W (w.heap.size + 1 + 1) (.string (bs M)) (.string SP) (.string (bs QQ)) (.string ⟨#[]⟩) (.slice none 0 0) (.string (bs BB))) (w.heap.size + 1) (.bool f.ok) (.slice none f.segs.length 0) (.int .i64 f.kind) (.string (bs f.text)) (.slice N f.names.length cn) (.slice V f.vals.length cv) (.string (bs f.rest))).drew.cell? ⟨w.heap.size, 5, none⟩ = some (.string (bs body)) ∧ (set7 (set6 W (w.heap.size + 1 + 1) (.string (bs M)) (.string SP) (.string (bs QQ)) (.string ⟨#[]⟩) (.slice none 0 0) (.string (bs BB))) (w.heap.size + 1) (.bool f.ok) (.slice none f.segs.length 0) (.int .i64 f.kind) (.string (bs f.text)) (.slice N f.names.length cn) (.slice V f.vals.length cv) (.string (bs f.rest))).drew.cell? ⟨w.heap.size + 1 + 1 + 1, 0, none⟩ = some (.bool f.ok) ∧ (set7 (set6 W (w.heap.size + 1 + 1) (.string (bs M)) (.string SP) (.string (bs QQ)) (.string ⟨#[]⟩) (.slice none 0 0) (.string (bs BB))) (w.heap.size + 1) (.bool f.ok) (.slice none f.segs.length 0) (.int .i64 f.kind) (.string (bs f.text)) (.slice N f.names.length cn) (.slice V f.vals.length cv) (.string (bs f.rest))).drew.cell? ⟨w.heap.size + 1 + 1 + 1, 1, none⟩ = some (.slice none f.segs.length 0) ∧ (set7 (set6 W (w.heap.size + 1 + 1) (.string (bs M)) (.string SP) (.string (bs QQ)) (.string ⟨#[]⟩) (.slice none 0 0) (.string (bs BB))) (w.heap.size + 1) (.bool f.ok) (.slice none f.segs.length 0) (.int .i64 f.kind) (.string (bs f.text)) (.slice N f.names.length cn) (.slice V f.vals.length cv) (.string (bs f.rest))).drew.cell? ⟨w.heap.size + 1 + 1 + 1, 2, none⟩ = some (.int .i64 f.kind) ∧ (set7 (set6 W (w.heap.size + 1 + 1) (.string (bs M)) (.string SP) (.string (bs QQ)) (.string ⟨#[]⟩) (.slice none 0 0) (.string (bs BB))) (w.heap.size + 1) (.bool f.ok) (.slice none f.segs.length 0) (.int .i64 f.kind) (.string (bs f.text)) (.slice N f.names.length cn) (.slice V f.vals.length cv) (.string (bs f.rest))).drew.cell? ⟨w.heap.size + 1 + 1 + 1, 3, none⟩ = some (.string (bs f.text)) ∧ (set7 (set6 W (w.heap.size + 1 + 1) (.string (bs M)) (.string SP) (.string (bs QQ)) (.string ⟨#[]⟩) (.slice none 0 0) (.string (bs BB))) (w.heap.size + 1) (.bool f.ok) (.slice none f.segs.length 0) (.int .i64 f.kind) (.string (bs f.text)) (.slice N f.names.length cn) (.slice V f.vals.length cv) (.string (bs f.rest))).drew.cell? ⟨w.heap.size + 1 + 1 + 1, 4, none⟩ = some (.slice N f.names.length cn) ∧ (set7 (set6 W (w.heap.size + 1 + 1) (.string (bs M)) (.string SP) (.string (bs QQ)) (.string ⟨#[]⟩) (.slice none 0 0) (.string (bs BB))) (w.heap.size + 1) (.bool f.ok) (.slice none f.segs.length 0) (.int .i64 f.kind) (.string (bs f.text)) (.slice N f.names.length cn) (.slice V f.vals.length cv) (.string (bs f.rest))).drew.cell? ⟨w.heap.size + 1 + 1 + 1, 5, none⟩ = some (.slice V f.vals.length cv) ∧ (set7 (set6 W (w.heap.size + 1 + 1) (.string (bs M)) (.string SP) (.string (bs QQ)) (.string ⟨#[]⟩) (.slice none 0 0) (.string (bs BB))) (w.heap.size + 1) (.bool f.ok) (.slice none f.segs.length 0) (.int .i64 f.kind) (.string (bs f.text)) (.slice N f.names.length cn) (.slice V f.vals.length cv) (.string (bs f.rest))).drew.cell? ⟨w.heap.size + 1 + 1 + 1, 6, none⟩ = some (.string (bs f.rest)) := ⟨((far7 (far6 k6 (g := w.heap.size + 1 + 1) (by omega) (.string (bs M)) (.string SP) (.string (bs QQ)) (.string ⟨#[]⟩) (.slice none 0 0) (.string (bs BB))) (g := w.heap.size + 1) (by omega) (.bool f.ok) (.slice none f.segs.length 0) (.int .i64 f.kind) (.string (bs f.text)) (.slice N f.names.length cn) (.slice V f.vals.length cv) (.string (bs f.rest))).drew.cell m).trans hMc, (far7 (far6 j0 (g := w.heap.size + 1 + 1) (by omega) (.string (bs M)) (.string SP) (.string (bs QQ)) (.string ⟨#[]⟩) (.slice none 0 0) (.string (bs BB))) (g := w.heap.size + 1) (by omega) (.bool f.ok) (.slice none f.segs.length 0) (.int .i64 f.kind) (.string (bs f.text)) (.slice N f.names.length cn) (.slice V f.vals.length cv) (.string (bs f.rest))).drew.cell 1, (far7 (far6 j0 (g := w.heap.size + 1 + 1) (by omega) (.string (bs M)) (.string SP) (.string (bs QQ)) (.string ⟨#[]⟩) (.slice none 0 0) (.string (bs BB))) (g := w.heap.size + 1) (by omega) (.bool f.ok) (.slice none f.segs.length 0) (.int .i64 f.kind) (.string (bs f.text)) (.slice N f.names.length cn) (.slice V f.vals.length cv) (.string (bs f.rest))).drew.cell 2, (far7 (far6 j0 (g := w.heap.size + 1 + 1) (by omega) (.string (bs M)) (.string SP) (.string (bs QQ)) (.string ⟨#[]⟩) (.slice none 0 0) (.string (bs BB))) (g := w.heap.size + 1) (by omega) (.bool f.ok) (.slice none f.segs.length 0) (.int .i64 f.kind) (.string (bs f.text)) (.slice N f.names.length cn) (.slice V f.vals.length cv) (.string (bs f.rest))).drew.cell 5, (far7 (far6 j3 (g := w.heap.size + 1 + 1) (by omega) (.string (bs M)) (.string SP) (.string (bs QQ)) (.string ⟨#[]⟩) (.slice none 0 0) (.string (bs BB))) (g := w.heap.size + 1) (by omega) (.bool f.ok) (.slice none f.segs.length 0) (.int .i64 f.kind) (.string (bs f.text)) (.slice N f.names.length cn) (.slice V f.vals.length cv) (.string (bs f.rest))).drew.cell 0, (far7 (far6 j3 (g := w.heap.size + 1 + 1) (by omega) (.string (bs M)) (.string SP) (.string (bs QQ)) (.string ⟨#[]⟩) (.slice none 0 0) (.string (bs BB))) (g := w.heap.size + 1) (by omega) (.bool f.ok) (.slice none f.segs.length 0) (.int .i64 f.kind) (.string (bs f.text)) (.slice N f.names.length cn) (.slice V f.vals.length cv) (.string (bs f.rest))).drew.cell 1, (far7 (far6 j3 (g := w.heap.size + 1 + 1) (by omega) (.string (bs M)) (.string SP) (.string (bs QQ)) (.string ⟨#[]⟩) (.slice none 0 0) (.string (bs BB))) (g := w.heap.size + 1) (by omega) (.bool f.ok) (.slice none f.segs.length 0) (.int .i64 f.kind) (.string (bs f.text)) (.slice N f.names.length cn) (.slice V f.vals.length cv) (.string (bs f.rest))).drew.cell 2, (far7 (far6 j3 (g := w.heap.size + 1 + 1) (by omega) (.string (bs M)) (.string SP) (.string (bs QQ)) (.string ⟨#[]⟩) (.slice none 0 0) (.string (bs BB))) (g := w.heap.size + 1) (by omega) (.bool f.ok) (.slice none f.segs.length 0) (.int .i64 f.kind) (.string (bs f.text)) (.slice N f.names.length cn) (.slice V f.vals.length cv) (.string (bs f.rest))).drew.cell 3, (far7 (far6 j3 (g := w.heap.size + 1 + 1) (by omega) (.string (bs M)) (.string SP) (.string (bs QQ)) (.string ⟨#[]⟩) (.slice none 0 0) (.string (bs BB))) (g := w.heap.size + 1) (by omega) (.bool f.ok) (.slice none f.segs.length 0) (.int .i64 f.kind) (.string (bs f.text)) (.slice N f.names.length cn) (.slice V f.vals.length cv) (.string (bs f.rest))).drew.cell 4, (far7 (far6 j3 (g := w.heap.size + 1 + 1) (by omega) (.string (bs M)) (.string SP) (.string (bs QQ)) (.string ⟨#[]⟩) (.slice none 0 0) (.string (bs BB))) (g := w.heap.size + 1) (by omega) (.bool f.ok) (.slice none f.segs.length 0) (.int .i64 f.kind) (.string (bs f.text)) (.slice N f.names.length cn) (.slice V f.vals.length cv) (.string (bs f.rest))).drew.cell 5, (far7 (far6 j3 (g := w.heap.size + 1 + 1) (by omega) (.string (bs M)) (.string SP) (.string (bs QQ)) (.string ⟨#[]⟩) (.slice none 0 0) (.string (bs BB))) (g := w.heap.size + 1) (by omega) (.bool f.ok) (.slice none f.segs.length 0) (.int .i64 f.kind) (.string (bs f.text)) (.slice N f.names.length cn) (.slice V f.vals.length cv) (.string (bs f.rest))).drew.cell 6⟩
    unfold set7 at SA
    unfold set6 at SB
    unfold set6 set7 at SAB SBA FIN
    have TA := Lib.hid SA
    have TB := Lib.hid SB
    have TAB := Lib.hid SAB
    have TBA := Lib.hid SBA
    clear SA SB SAB SBA
    clear k6 j0 j1 j2 j3 jN jV jW hM hMc hlp hlq hlb hPP hQQ hBB HPP ylp ylq ylb CM hm4
    have S0 : W.drew.cell? ⟨wx.heap.size, m, none⟩ = some (.string (bs M)) ∧ W.drew.cell? ⟨w.heap.size, 1, none⟩ = some (.string (bs path)) ∧ W.drew.cell? ⟨w.heap.size, 2, none⟩ = some (.string (bs query)) ∧ W.drew.cell? ⟨w.heap.size, 5, none⟩ = some (.string (bs body)) ∧ W.drew.cell? ⟨w.heap.size + 1 + 1 + 1, 0, none⟩ = some (.bool f.ok) ∧ W.drew.cell? ⟨w.heap.size + 1 + 1 + 1, 1, none⟩ = some (.slice none f.segs.length 0) ∧ W.drew.cell? ⟨w.heap.size + 1 + 1 + 1, 2, none⟩ = some (.int .i64 f.kind) ∧ W.drew.cell? ⟨w.heap.size + 1 + 1 + 1, 3, none⟩ = some (.string (bs f.text)) ∧ W.drew.cell? ⟨w.heap.size + 1 + 1 + 1, 4, none⟩ = some (.slice N f.names.length cn) ∧ W.drew.cell? ⟨w.heap.size + 1 + 1 + 1, 5, none⟩ = some (.slice V f.vals.length cv) ∧ W.drew.cell? ⟨w.heap.size + 1 + 1 + 1, 6, none⟩ = some (.string (bs f.rest)) := ⟨cM, cB1, cB2, cB5, cL0, cL1, cL2, cL3, cL4, cL5, cL6⟩
    refine wp_region_noPanic ?_
    refine wp_region_held_drew (S := (fun X => X.cell? ⟨wx.heap.size, m, none⟩ = some (.string (bs M)) ∧ X.cell? ⟨w.heap.size, 1, none⟩ = some (.string (bs path)) ∧ X.cell? ⟨w.heap.size, 2, none⟩ = some (.string (bs query)) ∧ X.cell? ⟨w.heap.size, 5, none⟩ = some (.string (bs body)) ∧ X.cell? ⟨w.heap.size + 1 + 1 + 1, 0, none⟩ = some (.bool f.ok) ∧ X.cell? ⟨w.heap.size + 1 + 1 + 1, 1, none⟩ = some (.slice none f.segs.length 0) ∧ X.cell? ⟨w.heap.size + 1 + 1 + 1, 2, none⟩ = some (.int .i64 f.kind) ∧ X.cell? ⟨w.heap.size + 1 + 1 + 1, 3, none⟩ = some (.string (bs f.text)) ∧ X.cell? ⟨w.heap.size + 1 + 1 + 1, 4, none⟩ = some (.slice N f.names.length cn) ∧ X.cell? ⟨w.heap.size + 1 + 1 + 1, 5, none⟩ = some (.slice V f.vals.length cv) ∧ X.cell? ⟨w.heap.size + 1 + 1 + 1, 6, none⟩ = some (.string (bs f.rest)))) (by kernel_rfl) S0 (fun hHeld => ?_)
    refine wpAnyH_take (i := 0) (oi := _) (v := ?_) rfl (by kernel_rfl) (by kernel_rfl) (by kernel_rfl) (fun _ _ _ h => h) (Or.inl ⟨by rfl, ?_⟩) (by assumption) ?_
    rotate_left
    · intro w' hSw; (try dsimp only at hSw); go_simp; (try with_reducible rfl)
    try simp only [List.getElem_toArray, List.getElem_cons_zero, Act.put, List.setIfInBounds_toArray, List.set_cons_zero, List.set_cons_succ]
    refine wpAnyH_take (i := 1) (oi := _) (v := ?_) rfl (by kernel_rfl) (by kernel_rfl) (by kernel_rfl) (fun _ _ _ h => h) (Or.inl ⟨by rfl, ?_⟩) (by assumption) ?_
    rotate_left
    · intro w' hSw; (try dsimp only at hSw); go_simp; (try with_reducible rfl)
    try simp only [List.getElem_toArray, List.getElem_cons_succ, List.getElem_cons_zero, Act.put, List.setIfInBounds_toArray, List.set_cons_zero, List.set_cons_succ]
    refine wpAnyH_take (i := 2) (oi := _) (v := ?_) rfl (by kernel_rfl) (by kernel_rfl) (by kernel_rfl) (fun _ _ _ h => h) (Or.inl ⟨by rfl, ?_⟩) (by assumption) ?_
    rotate_left
    · intro w' hSw; (try dsimp only at hSw); go_simp; (try with_reducible rfl)
    try simp only [List.getElem_toArray, List.getElem_cons_succ, List.getElem_cons_zero, Act.put, List.setIfInBounds_toArray, List.set_cons_zero, List.set_cons_succ]
    refine wpAnyH_take (i := 3) (oi := _) (v := ?_) rfl (by kernel_rfl) (by kernel_rfl) (by kernel_rfl) (fun _ _ _ h => h) (Or.inl ⟨by rfl, ?_⟩) (by assumption) ?_
    rotate_left
    · intro w' hSw; (try dsimp only at hSw); go_simp; (try with_reducible rfl)
    try simp only [List.getElem_toArray, List.getElem_cons_succ, List.getElem_cons_zero, Act.put, List.setIfInBounds_toArray, List.set_cons_zero, List.set_cons_succ]
    refine wpAnyH_take (i := 4) (oi := _) (v := ?_) rfl (by kernel_rfl) (by kernel_rfl) (by kernel_rfl) (fun _ _ _ h => h) (Or.inl ⟨by rfl, ?_⟩) (by assumption) ?_
    rotate_left
    · intro w' hSw; (try dsimp only at hSw); go_simp; (try with_reducible rfl)
    try simp only [List.getElem_toArray, List.getElem_cons_succ, List.getElem_cons_zero, Act.put, List.setIfInBounds_toArray, List.set_cons_zero, List.set_cons_succ]
    refine wpAnyH_take (i := 5) (oi := _) (v := ?_) rfl (by kernel_rfl) (by kernel_rfl) (by kernel_rfl) (fun _ _ _ h => h) (Or.inl ⟨by rfl, ?_⟩) (by assumption) ?_
    rotate_left
    · intro w' hSw; (try dsimp only at hSw); go_simp; (try with_reducible rfl)
    try simp only [List.getElem_toArray, List.getElem_cons_succ, List.getElem_cons_zero, Act.put, List.setIfInBounds_toArray, List.set_cons_zero, List.set_cons_succ]
    refine wpAnyH_take (i := 6) (oi := _) (v := ?_) rfl (by kernel_rfl) (by kernel_rfl) (by kernel_rfl) (fun _ _ _ h => h) (Or.inl ⟨by rfl, ?_⟩) (by assumption) ?_
    rotate_left
    · intro w' hSw; (try dsimp only at hSw); go_simp; (try with_reducible rfl)
    try simp only [List.getElem_toArray, List.getElem_cons_succ, List.getElem_cons_zero, Act.put, List.setIfInBounds_toArray, List.set_cons_zero, List.set_cons_succ]
    refine wpAnyH_take (i := 7) (oi := _) (v := ?_) rfl (by kernel_rfl) (by kernel_rfl) (by kernel_rfl) (fun _ _ _ h => h) (Or.inl ⟨by rfl, ?_⟩) (by assumption) ?_
    rotate_left
    · intro w' hSw; (try dsimp only at hSw); go_simp; (try with_reducible rfl)
    try simp only [List.getElem_toArray, List.getElem_cons_succ, List.getElem_cons_zero, Act.put, List.setIfInBounds_toArray, List.set_cons_zero, List.set_cons_succ]
    refine wpAnyH_take (i := 8) (oi := _) (v := ?_) rfl (by kernel_rfl) (by kernel_rfl) (by kernel_rfl) (fun _ _ _ h => h) (Or.inl ⟨by rfl, ?_⟩) (by assumption) ?_
    rotate_left
    · intro w' hSw; (try dsimp only at hSw); go_simp; (try with_reducible rfl)
    try simp only [List.getElem_toArray, List.getElem_cons_succ, List.getElem_cons_zero, Act.put, List.setIfInBounds_toArray, List.set_cons_zero, List.set_cons_succ]
    refine wpAnyH_take (i := 9) (oi := _) (v := ?_) rfl (by kernel_rfl) (by kernel_rfl) (by kernel_rfl) (fun _ _ _ h => h) (Or.inl ⟨by rfl, ?_⟩) (by assumption) ?_
    rotate_left
    · intro w' hSw; (try dsimp only at hSw); go_simp; (try with_reducible rfl)
    try simp only [List.getElem_toArray, List.getElem_cons_succ, List.getElem_cons_zero, Act.put, List.setIfInBounds_toArray, List.set_cons_zero, List.set_cons_succ]
    refine wpAnyH_take (i := 10) (oi := _) (v := ?_) rfl (by kernel_rfl) (by kernel_rfl) (by kernel_rfl) (fun _ _ _ h => h) (Or.inl ⟨by rfl, ?_⟩) (by assumption) ?_
    rotate_left
    · intro w' hSw; (try dsimp only at hSw); go_simp; (try with_reducible rfl)
    try simp only [List.getElem_toArray, List.getElem_cons_succ, List.getElem_cons_zero, Act.put, List.setIfInBounds_toArray, List.set_cons_zero, List.set_cons_succ]
    refine wpAnyH_take (i := 11) (oi := _) (v := ?_) rfl (by kernel_rfl) (by kernel_rfl) (by kernel_rfl) (fun _ _ _ h => h) (Or.inl ⟨by rfl, ?_⟩) (by assumption) ?_
    rotate_left
    · intro w' hSw; (try dsimp only at hSw); go_simp; (try with_reducible rfl)
    try simp only [List.getElem_toArray, List.getElem_cons_succ, List.getElem_cons_zero, Act.put, List.setIfInBounds_toArray, List.set_cons_zero, List.set_cons_succ]
    refine wpAnyH_take (i := 12) (oi := _) (v := ?_) rfl (by kernel_rfl) (by kernel_rfl) (by kernel_rfl) (fun _ _ _ h => h) (Or.inl ⟨by rfl, ?_⟩) (by assumption) ?_
    rotate_left
    · intro w' hSw; (try dsimp only at hSw); go_simp; (try with_reducible rfl)
    try simp only [List.getElem_toArray, List.getElem_cons_succ, List.getElem_cons_zero, Act.put, List.setIfInBounds_toArray, List.set_cons_zero, List.set_cons_succ]
    refine wpAnyH_take (i := 13) (oi := _) (v := ?_) rfl (by kernel_rfl) (by kernel_rfl) (by kernel_rfl) (fun _ _ _ h => h) (Or.inl ⟨by rfl, ?_⟩) (by assumption) ?_
    rotate_left
    · intro w' hSw; (try dsimp only at hSw); go_simp; (try with_reducible rfl)
    try simp only [List.getElem_toArray, List.getElem_cons_succ, List.getElem_cons_zero, Act.put, List.setIfInBounds_toArray, List.set_cons_zero, List.set_cons_succ]
    refine wpAnyH_take (i := 14) (oi := _) (v := ?_) rfl (by kernel_rfl) (by kernel_rfl) (by kernel_rfl) (fun _ _ _ h => h) (Or.inl ⟨by rfl, ?_⟩) (by assumption) ?_
    rotate_left
    · intro w' hSw; (try dsimp only at hSw); go_simp; (try with_reducible rfl)
    try simp only [List.getElem_toArray, List.getElem_cons_succ, List.getElem_cons_zero, Act.put, List.setIfInBounds_toArray, List.set_cons_zero, List.set_cons_succ]
    refine wpAnyH_take (i := 15) (oi := _) (v := ?_) rfl (by kernel_rfl) (by kernel_rfl) (by kernel_rfl) (fun _ _ _ h => h) (Or.inl ⟨by rfl, ?_⟩) (by assumption) ?_
    rotate_left
    · intro w' hSw; (try dsimp only at hSw); go_simp; (try with_reducible rfl)
    try simp only [List.getElem_toArray, List.getElem_cons_succ, List.getElem_cons_zero, Act.put, List.setIfInBounds_toArray, List.set_cons_zero, List.set_cons_succ]
    refine wpAnyH_take (i := 16) (oi := _) (v := ?_) rfl (by kernel_rfl) (by kernel_rfl) (by kernel_rfl) (fun _ _ _ h => h) (Or.inl ⟨by rfl, ?_⟩) (by assumption) ?_
    rotate_left
    · intro w' hSw; (try dsimp only at hSw); go_simp; (try with_reducible rfl)
    try simp only [List.getElem_toArray, List.getElem_cons_succ, List.getElem_cons_zero, Act.put, List.setIfInBounds_toArray, List.set_cons_zero, List.set_cons_succ]
    refine wpAnyH_take (i := 17) (oi := _) (v := ?_) rfl (by kernel_rfl) (by kernel_rfl) (by kernel_rfl) (fun _ _ _ h => h) (Or.inl ⟨by rfl, ?_⟩) (by assumption) ?_
    rotate_left
    · intro w' hSw; (try dsimp only at hSw); go_simp; (try with_reducible rfl)
    try simp only [List.getElem_toArray, List.getElem_cons_succ, List.getElem_cons_zero, Act.put, List.setIfInBounds_toArray, List.set_cons_zero, List.set_cons_succ]
    refine wpAnyH_take (i := 18) (oi := _) (v := ?_) rfl (by kernel_rfl) (by kernel_rfl) (by kernel_rfl) (fun _ _ _ h => h) (Or.inl ⟨by rfl, ?_⟩) (by assumption) ?_
    rotate_left
    · intro w' hSw; (try dsimp only at hSw); go_simp; (try with_reducible rfl)
    try simp only [List.getElem_toArray, List.getElem_cons_succ, List.getElem_cons_zero, Act.put, List.setIfInBounds_toArray, List.set_cons_zero, List.set_cons_succ]
    refine wpAnyH_take (i := 19) (oi := _) (v := ?_) rfl (by kernel_rfl) (by kernel_rfl) (by kernel_rfl) (fun _ _ _ h => h) (Or.inl ⟨by rfl, ?_⟩) (by assumption) ?_
    rotate_left
    · intro w' hSw; (try dsimp only at hSw); go_simp; (try with_reducible rfl)
    try simp only [List.getElem_toArray, List.getElem_cons_succ, List.getElem_cons_zero, Act.put, List.setIfInBounds_toArray, List.set_cons_zero, List.set_cons_succ]
    refine wpAnyH_take (i := 20) (oi := _) (v := ?_) rfl (by kernel_rfl) (by kernel_rfl) (by kernel_rfl) (fun _ _ _ h => h) (Or.inl ⟨by rfl, ?_⟩) (by assumption) ?_
    rotate_left
    · intro w' hSw; (try dsimp only at hSw); go_simp; (try with_reducible rfl)
    try simp only [List.getElem_toArray, List.getElem_cons_succ, List.getElem_cons_zero, Act.put, List.setIfInBounds_toArray, List.set_cons_zero, List.set_cons_succ]
    refine wpAnyH_take (i := 21) (oi := _) (v := ?_) rfl (by kernel_rfl) (by kernel_rfl) (by kernel_rfl) (fun _ _ _ h => h) (Or.inl ⟨by rfl, ?_⟩) (by assumption) ?_
    rotate_left
    · intro w' hSw; (try dsimp only at hSw); go_simp; (try with_reducible rfl)
    try simp only [List.getElem_toArray, List.getElem_cons_succ, List.getElem_cons_zero, Act.put, List.setIfInBounds_toArray, List.set_cons_zero, List.set_cons_succ]
    refine wpAnyH_take (i := 22) (oi := _) (v := ?_) rfl (by kernel_rfl) (by kernel_rfl) (by kernel_rfl) (fun _ _ _ h => h) (Or.inl ⟨by rfl, ?_⟩) (by assumption) ?_
    rotate_left
    · intro w' hSw; (try dsimp only at hSw); go_simp; (try with_reducible rfl)
    try simp only [List.getElem_toArray, List.getElem_cons_succ, List.getElem_cons_zero, Act.put, List.setIfInBounds_toArray, List.set_cons_zero, List.set_cons_succ]
    refine wpAnyH_take (i := 23) (oi := _) (v := ?_) rfl (by kernel_rfl) (by kernel_rfl) (by kernel_rfl) (fun _ _ _ h => h) (Or.inl ⟨by rfl, ?_⟩) (by assumption) ?_
    rotate_left
    · intro w' hSw; (try dsimp only at hSw); go_simp; (try with_reducible rfl)
    try simp only [List.getElem_toArray, List.getElem_cons_succ, List.getElem_cons_zero, Act.put, List.setIfInBounds_toArray, List.set_cons_zero, List.set_cons_succ]
    refine wpAnyH_take (i := 24) (oi := _) (v := ?_) rfl (by kernel_rfl) (by kernel_rfl) (by kernel_rfl) (fun _ _ _ h => h) (Or.inl ⟨by rfl, ?_⟩) (by assumption) ?_
    rotate_left
    · intro w' hSw; (try dsimp only at hSw); go_simp; (try with_reducible rfl)
    try simp only [List.getElem_toArray, List.getElem_cons_succ, List.getElem_cons_zero, Act.put, List.setIfInBounds_toArray, List.set_cons_zero, List.set_cons_succ]
    refine wpAnyH_take (i := 25) (oi := _) (v := ?_) rfl (by kernel_rfl) (by kernel_rfl) (by kernel_rfl) (fun _ _ _ h => h) (Or.inl ⟨by rfl, ?_⟩) (by assumption) ?_
    rotate_left
    · intro w' hSw; (try dsimp only at hSw); go_simp; (try with_reducible rfl)
    try simp only [List.getElem_toArray, List.getElem_cons_succ, List.getElem_cons_zero, Act.put, List.setIfInBounds_toArray, List.set_cons_zero, List.set_cons_succ]
    refine wpAnyH_take (i := 26) (oi := _) (v := ?_) rfl (by kernel_rfl) (by kernel_rfl) (by kernel_rfl) (fun _ _ _ h => h) (Or.inl ⟨by rfl, ?_⟩) (by assumption) ?_
    rotate_left
    · intro w' hSw; (try dsimp only at hSw); go_simp; (try with_reducible rfl)
    try simp only [List.getElem_toArray, List.getElem_cons_succ, List.getElem_cons_zero, Act.put, List.setIfInBounds_toArray, List.set_cons_zero, List.set_cons_succ]
    refine wpAnyH_take (i := 27) (oi := _) (v := ?_) rfl (by kernel_rfl) (by kernel_rfl) (by kernel_rfl) (fun _ _ _ h => h) (Or.inl ⟨by rfl, ?_⟩) (by assumption) ?_
    rotate_left
    · intro w' hSw; (try dsimp only at hSw); go_simp; (try with_reducible rfl)
    try simp only [List.getElem_toArray, List.getElem_cons_succ, List.getElem_cons_zero, Act.put, List.setIfInBounds_toArray, List.set_cons_zero, List.set_cons_succ]
    refine wpAnyH_take (i := 28) (oi := _) (v := ?_) rfl (by kernel_rfl) (by kernel_rfl) (by kernel_rfl) (fun _ _ _ h => h) (Or.inl ⟨by rfl, ?_⟩) (by assumption) ?_
    rotate_left
    · intro w' hSw; (try dsimp only at hSw); go_simp; (try with_reducible rfl)
    try simp only [List.getElem_toArray, List.getElem_cons_succ, List.getElem_cons_zero, Act.put, List.setIfInBounds_toArray, List.set_cons_zero, List.set_cons_succ]
    refine wpAnyH_take (i := 29) (oi := _) (v := ?_) rfl (by kernel_rfl) (by kernel_rfl) (by kernel_rfl) (fun _ _ _ h => h) (Or.inl ⟨by rfl, ?_⟩) (by assumption) ?_
    rotate_left
    · intro w' hSw; (try dsimp only at hSw); go_simp; (try with_reducible rfl)
    try simp only [List.getElem_toArray, List.getElem_cons_succ, List.getElem_cons_zero, Act.put, List.setIfInBounds_toArray, List.set_cons_zero, List.set_cons_succ]
    refine wpAnyH_ready (rs := [30]) (by kernel_rfl) (by simp) ?_
    refine AllReadyH.cons (o := _) rfl (fun K' hK => ?_) AllReadyH.nil
    go_simp
    refine hK.out _ _ ?_ (fun hHeld2 => ?_)
    · (try dsimp only); with_reducible exact TA.out
    clear hK K'
    try simp only [List.getElem_toArray, List.getElem_cons_succ, List.getElem_cons_zero, Act.put, List.setIfInBounds_toArray, List.set_cons_zero, List.set_cons_succ]
    refine wpAnyH_ready (rs := [31]) (by kernel_rfl) (by simp) ?_
    refine AllReadyH.cons (o := _) rfl (fun K' hK => ?_) AllReadyH.nil
    go_simp
    refine hK.out _ _ ?_ (fun hHeld3 => ?_)
    · (try dsimp only); with_reducible exact TAB.out
    clear hK K'
    try simp only [List.getElem_toArray, List.getElem_cons_succ, List.getElem_cons_zero, Act.put, List.setIfInBounds_toArray, List.set_cons_zero, List.set_cons_succ]
    refine wpAnyH_done (by kernel_rfl) ?_ _
    refine NoPanic.normal ?_
    clear hHeld hHeld2 hHeld3
    go_wp2_with fail
    obtain ⟨⟨E1, E2, E3⟩, _⟩ := FIN.out
    refine bodyPost_ret (results_cell_cell (p := 4) (q := 5) (ty := 42) (ty2 := 33) (by kernel_rfl) _ _ (w.heap.size + 1) (w.heap.size + 1 + 1) _ _ rfl (ld7 E1.drew rfl) rfl (ld6R E2.drew rfl)) rfl ?_
    obtain ⟨hM4, hpp, hqq, hbb⟩ := HY.out
    have hf := HF.out
    subst hf
    refine ⟨b, kd, M, PP, QQ, BB, N, V, cn, cv, hk1, hk2, hM4, hpp, hqq, hbb, ?_, ?_, ?_, E3.drew⟩
    · rw [HSP.out]; rfl
    · exact HNV.out.1
    · exact HNV.out.2
end

section
open Go.RowKit

set_option maxRecDepth 100000 in
set_option maxHeartbeats 4000000 in
theorem rLow12 (l : List UInt8) (w : World) (hl : l.length ≤ 1000000) :
    Calls Tryz.prog 77 #[.string (bs l)] w fun e w' => e = .returned (.string (bs (lowL l))) ∧ Below w.heap.size w w' := by
  obtain ⟨s, hs0⟩ : ∃ s, bs l = s := ⟨_, rfl⟩
  have hlow : bs (lowL l) = low s := by rw [← hs0]; unfold low; rw [bs_list]; rfl
  have hs : s.size ≤ 1000000 := by rw [← hs0, bs_size]; exact hl
  rw [hs0, hlow]
  clear hs0 hlow hl
  obtain ⟨cap, w1, hr, hb1, hsz, hbi, hfz⟩ := bytes_of_string (P := Tryz.prog) 9 66 5 Tryz.underlying9 Tryz.underlying66 Tryz.underlying5 w s
  have HBI := Lib.hid hbi
  have HFZ := Lib.hid hfz
  clear hbi hfz
  go_enter Tryz.func77, Tryz.ntmps77
  go_wp2_with fail
  go_loopw [4] (fun i wr => ∃ k : Nat, i = .int .i64 k ∧ k ≤ s.size ∧ Hid (LowK wr w.heap.size s k) ∧ Hid (∀ j, j < s.size → wr.frozen? ⟨w.heap.size, j, none⟩ = false) ∧ Below w.heap.size w wr) (fun i _ => s.size - (intOf i).toNat)
  case atStart => exact ⟨0, rfl, by omega, hide (fun j hj => by rw [if_neg (by omega)]; exact HBI.out j hj), hide HFZ.out, hb1⟩
  case round =>
    obtain ⟨k, rfl, hk, HL, HF, hb⟩ := hrel
    rename World => W0
    by_cases hlt : k < s.size
    · obtain ⟨c, hc⟩ : ∃ c, s[k] = c := ⟨_, rfl⟩
      have hcell : W0.cell? ⟨w.heap.size, k, none⟩ = some (.int .u8 c.toNat) := by rw [HL.out k hlt, if_neg (by omega), hc]
      have hfz := HF.out k hlt
      obtain ⟨n, hn⟩ : ∃ n, c.toNat = n := ⟨_, rfl⟩
      have hn8 : n < 256 := by rw [← hn]; exact c.toNat_lt
      rw [hn] at hcell
      by_cases hu : 65 ≤ n ∧ n ≤ 90
      · obtain ⟨h1, h2⟩ := hu
        have hw1 : IntKind.u8.wrap ((n : Int) - 65) = (n : Int) - 65 := by rw [IntKind.wrap_u8]; omega
        have hw2 : IntKind.u8.wrap ((n : Int) - 65 + 97) = ((n + 32 : Nat) : Int) := by rw [IntKind.wrap_u8]; omega
        go_wp2_with fail
        go_roundw
        case rel =>
          refine ⟨k + 1, by go_num, by omega, hide (HL.out.step hlt _ ?_), hide fun j hj => by rw [World.frozen?_setCell]; exact HF.out j hj, hb.setCell (by simp) _⟩
          rw [hc, lowB_up (by omega), hn]
          omega
        case measure => simp [intOf]; omega
      · have hno : lowB s[k] = s[k] := lowB_no (by rw [hc, hn]; exact hu)
        have rest : 65 ≤ n ∧ 90 < n ∨ n < 65 := by omega
        rcases rest with ⟨h1, h2⟩ | h1
        all_goals (
          try have hd2 : decide ((n : Int) ≤ 90) = false := by simp; omega
          try have hd1 : decide ((65 : Int) ≤ (n : Int)) = false := by simp; omega
          go_wp2_with fail
          go_roundw
          case rel => exact ⟨k + 1, by go_num, by omega, hide (HL.out.skip hlt hno), HF, hb⟩
          case measure => simp [intOf]; omega)
    · have hkl : k = s.size := by omega
      subst hkl
      have hd : decide ((s.size : Int) < (s.size : Int)) = false := by simp
      have hll : (lowL s.data.toList).length = s.size := by rw [lowL, List.length_map, size_l]
      have hcv := run_convert_bytes_back (P := Tryz.prog) W0 66 9 5 ⟨w.heap.size, 0, none⟩ cap (lowL s.data.toList) Tryz.underlying66 Tryz.underlying5 Tryz.underlying9 (fun j hj => by
        rw [hll] at hj
        rw [Addr.add_lit, Nat.zero_add, HL.out j hj, if_pos hj]
        simp only [lowL, List.getElem_map]
        rfl)
      rw [hll] at hcv
      go_wp2_with fail
      go_ret
      exact ⟨rfl, hb⟩
/-- a byte that a value may have at a place -/
def okAt (l : List UInt8) (k : Nat) : Prop := (l.take k).any offB = false ∧ (0 < k → l.head? ≠ some 32) ∧ (k = l.length → l.getLast? ≠ some 32)
theorem may3 {f : Fld} (h : ¬ (isTok f.1 = false ∨ 40 < f.1.length ∨ ownR f.1 = true)) (h2 : ¬ 1024 < f.2.length) (h3 : f.2.head? = some 32 ∨ f.2.getLast? = some 32 ∨ f.2.any offB = true) : mayR f = 3 := by
  unfold mayR
  rw [if_neg h, if_neg h2]
  exact if_pos h3
theorem may0 {f : Fld} (h : ¬ (isTok f.1 = false ∨ 40 < f.1.length ∨ ownR f.1 = true)) (h2 : ¬ 1024 < f.2.length) (h3 : okAt f.2 f.2.length) : mayR f = 0 := by
  obtain ⟨a, b, c⟩ := h3
  rw [List.take_length] at a
  unfold mayR
  rw [if_neg h, if_neg h2]
  refine if_neg ?_
  rintro (h3 | h3 | h3)
  · cases hf : f.2 with
    | nil => rw [hf] at h3; cases h3
    | cons x t => exact b (by rw [hf]; simp) h3
  · exact c rfl h3
  · have : f.2.any offB = true := h3
    rw [a] at this; cases this
theorem head_at {l : List UInt8} {c : UInt8} {k : Nat} (h : k < l.length) (hc : l[k] = c) (h0 : k = 0) : l.head? = some c := by
  subst h0
  cases l with
  | nil => simp at h
  | cons x t => simp at hc ⊢; exact hc
theorem last_at {l : List UInt8} {c : UInt8} {k : Nat} (h : k < l.length) (hc : l[k] = c) (h0 : k + 1 = l.length) : l.getLast? = some c := by
  rw [List.getLast?_eq_getElem?, show l.length - 1 = k by omega, List.getElem?_eq_getElem h, hc]
theorem okAt_succ {l : List UInt8} {c : UInt8} {k : Nat} (h : okAt l k) (hk : k < l.length) (hc : l[k] = c) (ho : offB c = false) (h32 : c = 32 → k ≠ 0 ∧ k + 1 ≠ l.length) : okAt l (k + 1) := by
  refine ⟨any_off_take hk h.1 (by rw [hc]; exact ho), fun _ e => ?_, fun e1 e2 => ?_⟩
  · rcases Nat.eq_zero_or_pos k with h0 | h0
    · rw [head_at hk hc h0] at e
      exact (h32 (Option.some.inj e)).1 h0
    · exact h.2.1 h0 e
  · rw [last_at hk hc e1] at e2
    exact (h32 (Option.some.inj e2)).2 e1
set_option maxRecDepth 100000 in
set_option maxHeartbeats 8000000 in
theorem rMay12 (f : Fld) (w : World) (h1 : f.1.length ≤ 1000000) (h2 : f.2.length ≤ 1000000) :
    Calls Tryz.prog 49 #[.agg #[.string (bs f.1), .string (bs f.2)]] w fun e w' => e = .returned (.int .i64 (mayR f : Nat)) ∧ Below w.heap.size w w' := by
  obtain ⟨M, hM⟩ : ∃ M, mayR f = M := ⟨_, rfl⟩
  rw [hM]
  have HM0 := Lib.hid hM
  clear hM
  have b0 : Below w.heap.size w (w.alloc (.cells #[.string (bs f.1), .string (bs f.2)] 57)) := (Below.refl _ _).alloc (Nat.le_refl _) _
  have k0 := Blk.new w 57 #[.string (bs f.1), .string (bs f.2)]
  have c0 : (w.alloc (.cells #[.string (bs f.1), .string (bs f.2)] 57)).cell? ⟨w.heap.size, 0, none⟩ = some (.string (bs f.1)) := k0.cell 0
  have cL := rLow12 f.1 (w.alloc (.cells #[.string (bs f.1), .string (bs f.2)] 57)) h1
  have cI := fun X => rIs (bs f.1) X (by rw [bs_size]; omega)
  rw [bs_list] at cI
  have z1 := bs_size f.1
  have z2 := bs_size f.2
  have z3 := bs_size (lowL f.1)
  have z4 : (lowL f.1).length = f.1.length := by simp [lowL]
  rw [z4] at z3
  have B0 := Lib.hid b0
  have K0 := Lib.hid k0
  have CL := Lib.hid cL
  have CI := Lib.hid cI
  clear b0 k0 cL cI
  go_enter Tryz.func49, Tryz.ntmps49
  go_wp2_with fail
  (with_reducible refine (CL.out).mono ?_); rintro e w1 ⟨rfl, g1⟩
  have K1 := Lib.hid (K0.out.below g1 K0.out.lt)
  have G1 := Lib.hid (B0.out.trans (g1.mono B0.out.size))
  have d0 : w1.cell? ⟨w.heap.size, 0, none⟩ = some (.string (bs f.1)) := K1.out.cell 0
  have d1 : w1.cell? ⟨w.heap.size, 1, none⟩ = some (.string (bs f.2)) := K1.out.cell 1
  clear g1 CL K0 B0 c0
  by_cases hn : 40 < f.1.length
  · have hm := may11 (f := f) (.inr (.inl hn))
    have HMM := Lib.hid hm
    clear hm
    have i1 : (40 : Int) < (f.1.length : Int) := by omega
    go_wp2_with fail
    go_ret
    exact ⟨by rw [← HM0.out, HMM.out]; rfl, G1.out⟩
  have i1 : ¬ (40 : Int) < (f.1.length : Int) := by omega
  cases ht : isTok f.1 with
  | false =>
    have hm := may11 (f := f) (.inl ht)
    have HMM := Lib.hid hm
    clear hm
    rw [ht] at CI
    go_wp2_with fail
    (with_reducible refine (CI.out _).mono ?_); rintro e w2 ⟨rfl, rfl⟩
    go_wp2_with fail
    go_ret
    exact ⟨by rw [← HM0.out, HMM.out]; rfl, G1.out⟩
  | true =>
    rw [ht] at CI
    by_cases e1 : lowL f.1 = [99, 111, 110, 116, 101, 110, 116, 45, 108, 101, 110, 103, 116, 104]
    · have hm := may11 (f := f) (.inr (.inr (by unfold ownR; simp [e1])))
      have HMM := Lib.hid hm
      clear hm
      have m1 := lit_t e1
      clear e1
      go_wp2_with fail
      (with_reducible refine (CI.out _).mono ?_); rintro e w2 ⟨rfl, rfl⟩
      go_wp2_with fail
      go_ret
      exact ⟨by rw [← HM0.out, HMM.out]; rfl, G1.out⟩
    have m1 := lit_f e1
    by_cases e2 : lowL f.1 = [116, 114, 97, 110, 115, 102, 101, 114, 45, 101, 110, 99, 111, 100, 105, 110, 103]
    · have hm := may11 (f := f) (.inr (.inr (by unfold ownR; simp [e2])))
      have HMM := Lib.hid hm
      clear hm
      have m2 := lit_t e2
      clear e1 e2
      go_wp2_with fail
      (with_reducible refine (CI.out _).mono ?_); rintro e w2 ⟨rfl, rfl⟩
      go_wp2_with fail
      go_ret
      exact ⟨by rw [← HM0.out, HMM.out]; rfl, G1.out⟩
    have m2 := lit_f e2
    by_cases e3 : lowL f.1 = [99, 111, 110, 110, 101, 99, 116, 105, 111, 110]
    · have hm := may11 (f := f) (.inr (.inr (by unfold ownR; simp [e3])))
      have HMM := Lib.hid hm
      clear hm
      have m3 := lit_t e3
      clear e1 e2 e3
      go_wp2_with fail
      (with_reducible refine (CI.out _).mono ?_); rintro e w2 ⟨rfl, rfl⟩
      go_wp2_with fail
      go_ret
      exact ⟨by rw [← HM0.out, HMM.out]; rfl, G1.out⟩
    have m3 := lit_f e3
    have hno : ¬ (isTok f.1 = false ∨ 40 < f.1.length ∨ ownR f.1 = true) := by
      rintro (h | h | h)
      · rw [ht] at h; cases h
      · exact hn h
      · unfold ownR at h; simp [e1, e2, e3] at h
    have HNO := Lib.hid hno
    clear e1 e2 e3 hno ht
    by_cases hl : 1024 < f.2.length
    · have hm := may4 (f := f) HNO.out hl
      have HMM := Lib.hid hm
      clear hm
      have i2 : (1024 : Int) < (f.2.length : Int) := by omega
      go_wp2_with fail
      (with_reducible refine (CI.out _).mono ?_); rintro e w2 ⟨rfl, rfl⟩
      go_wp2_with fail
      go_ret
      exact ⟨by rw [← HM0.out, HMM.out]; rfl, G1.out⟩
    have i2 : ¬ (1024 : Int) < (f.2.length : Int) := by omega
    go_wp2_with fail
    (with_reducible refine (CI.out _).mono ?_); rintro e w2 ⟨rfl, rfl⟩
    go_wp2_with fail
    go_loop [4] (fun i => ∃ k : Nat, i = .int .i64 k ∧ k ≤ f.2.length ∧ Hid (okAt f.2 k)) (fun i => f.2.length - (intOf i).toNat)
    case atStart => exact ⟨0, rfl, by omega, hide ⟨by simp, fun h => absurd h (by omega), fun h e => by
      have : f.2 = [] := List.eq_nil_of_length_eq_zero h.symm
      rw [this] at e; cases e⟩⟩
    case round =>
      obtain ⟨k, rfl, hk, hO⟩ := hrel
      by_cases hlt : k < f.2.length
      · have hi : k < (bs f.2).size := by omega
        obtain ⟨c, hc, hb⟩ : ∃ c, f.2[k] = c ∧ (bs f.2)[k] = c := ⟨f.2[k], rfl, rfl⟩
        have HC := Lib.hid hc
        clear hc
        obtain ⟨n, hnn⟩ : ∃ n, c.toNat = n := ⟨_, rfl⟩
        have hn8 : n < 256 := by rw [← hnn]; exact c.toNat_lt
        have HN := Lib.hid hnn
        have hnI : ((c.toNat : Nat) : Int) = (n : Int) := by rw [hnn]
        have hws : IntKind.i64.wrap ((f.2.length : Int) - 1) = (f.2.length : Int) - 1 := by rw [IntKind.wrap_i64]; omega
        by_cases h32 : n < 32
        · have hm := may3 HNO.out hl (.inr (.inr (any_off_at hlt ((congrArg offB HC.out).trans (by unfold offB; rw [HN.out]; simp [h32])))))
          have HMM := Lib.hid hm
          clear hm
          have q1 : (n : Int) < 32 := by omega
          clear hnn
          go_wp2_with fail
          go_ret
          exact ⟨by rw [← HM0.out, HMM.out]; rfl, G1.out⟩
        have q1 : ¬ (n : Int) < 32 := by omega
        by_cases h126 : 126 < n
        · have hm := may3 HNO.out hl (.inr (.inr (any_off_at hlt ((congrArg offB HC.out).trans (by unfold offB; rw [HN.out]; simp [h126])))))
          have HMM := Lib.hid hm
          clear hm
          have q2 : (126 : Int) < (n : Int) := by omega
          clear hnn
          go_wp2_with fail
          go_ret
          exact ⟨by rw [← HM0.out, HMM.out]; rfl, G1.out⟩
        have q2 : ¬ (126 : Int) < (n : Int) := by omega
        have hoff : offB c = false := by unfold offB; rw [hnn]; simp; omega
        have HOF := Lib.hid hoff
        clear hoff
        by_cases hb32 : n = 32
        · have q3 : ((n : Int) == 32) = true := by rw [beq_iff_eq]; omega
          have hcc : c = 32 := UInt8.toNat_inj.1 (by rw [hnn, hb32]; rfl)
          by_cases hk0 : k = 0
          · have hm := may3 HNO.out hl (.inl (head_at hlt (HC.out.trans hcc) hk0))
            have HMM := Lib.hid hm
            clear hm
            have q4 : ((k : Int) == 0) = true := by rw [beq_iff_eq]; omega
            clear hnn hcc hb32 hk0
            go_wp2_with fail
            go_ret
            exact ⟨by rw [← HM0.out, HMM.out]; rfl, G1.out⟩
          have q4 : ((k : Int) == 0) = false := by rw [beq_eq_false_iff_ne]; omega
          by_cases hkl : k + 1 = f.2.length
          · have hm := may3 HNO.out hl (.inr (.inl (last_at hlt (HC.out.trans hcc) hkl)))
            have HMM := Lib.hid hm
            clear hm
            have q5 : ((k : Int) == (f.2.length : Int) - 1) = true := by rw [beq_iff_eq]; omega
            clear hnn hcc hb32
            go_wp2_with fail
            go_ret
            exact ⟨by rw [← HM0.out, HMM.out]; rfl, G1.out⟩
          have q5 : ((k : Int) == (f.2.length : Int) - 1) = false := by rw [beq_eq_false_iff_ne]; omega
          have hO2 := Lib.hid (okAt_succ hO.out hlt HC.out HOF.out fun _ => ⟨hk0, hkl⟩)
          clear hnn hcc hb32
          go_wp2_with fail
          go_round
          case rel => exact ⟨k + 1, by go_num, by omega, hO2⟩
          case measure => simp [intOf]; omega
        · have q3 : ((n : Int) == 32) = false := by rw [beq_eq_false_iff_ne]; omega
          have hO2 := Lib.hid (okAt_succ hO.out hlt HC.out HOF.out fun e => absurd (show n = 32 by rw [← HN.out, e]; rfl) hb32)
          clear hnn
          go_wp2_with fail
          go_round
          case rel => exact ⟨k + 1, by go_num, by omega, hO2⟩
          case measure => simp [intOf]; omega
      · obtain rfl : k = f.2.length := by omega
        have hm := may0 HNO.out hl hO.out
        have HMM := Lib.hid hm
        clear hm
        go_wp2_with fail
        go_ret
        exact ⟨by rw [← HM0.out, HMM.out]; rfl, G1.out⟩
set_option maxRecDepth 100000 in
theorem rReason12 (c : Int) (hc : reasonR c ≠ none) (w : World) :
    Calls Tryz.prog 57 #[.int .i64 c] w fun e w' => e = .returned (.tuple #[.string (bs ((reasonR c).getD [])), .int .i64 0]) ∧ w = w' := by
  obtain ⟨x, hx, rfl⟩ := reason_mem hc
  clear hc
  have hx' : x.1 ∈ codesR.map (·.1) := List.mem_map.2 ⟨x, hx, rfl⟩
  obtain ⟨n, hn⟩ : ∃ n, x.1 = n := ⟨_, rfl⟩
  rw [hn] at hx' ⊢
  clear hx hn
  simp only [codesR, List.map_cons, List.map_nil, List.mem_cons, List.not_mem_nil, or_false] at hx'
  rcases hx' with rfl | rfl | rfl | rfl | rfl | rfl | rfl | rfl | rfl | rfl | rfl | rfl | rfl | rfl | rfl
  all_goals (
    go_enter Tryz.func57, Tryz.ntmps57
    go_wp2_with fail
    go_ret2
    exact ⟨by kernel_rfl, rfl⟩)
/-- a digit cut out of all -/
theorem dig_cut (n : Nat) (h : n < 10) : ((⟨#[48, 49, 50, 51, 52, 53, 54, 55, 56, 57]⟩ : ByteArray).extract n (n + 1)).size = 1 := by
  have : ∀ n : Fin 10, ((⟨#[48, 49, 50, 51, 52, 53, 54, 55, 56, 57]⟩ : ByteArray).extract n.val (n.val + 1)).size = 1 := by decide +kernel
  exact this ⟨n, h⟩
set_option maxRecDepth 100000 in
theorem rDigits12 : ∀ (f n : Nat) (w : World), n < 10 ^ (f + 1) → f ≤ 10 →
    Calls Tryz.prog 58 #[.int .i64 n] w fun e w' => ∃ s : ByteArray, s.size ≤ f + 1 ∧ e = .returned (.string s) ∧ Below w.heap.size w w' := by
  intro f
  induction f with
  | zero =>
    intro n w hn _
    have hn10 : n < 10 := by simpa using hn
    have i0 : (n : Int) < 10 := by omega
    have hw : IntKind.i64.wrap ((n : Int) + 1) = (n : Int) + 1 := by rw [IntKind.wrap_i64]; omega
    have j1 : (0 : Int) ≤ (n : Int) := by omega
    have j2 : (n : Int) ≤ (n : Int) + 1 := by omega
    have j3 : (n : Int) + 1 ≤ 10 := by omega
    have hd := dig_cut n hn10
    obtain ⟨D, hD⟩ : ∃ D, (⟨#[48, 49, 50, 51, 52, 53, 54, 55, 56, 57]⟩ : ByteArray).extract n (n + 1) = D := ⟨_, rfl⟩
    rw [hD] at hd
    go_enter Tryz.func58, Tryz.ntmps58
    go_wp2_with fail
    go_ret
    exact ⟨D, by omega, rfl, Below.refl _ _⟩
  | succ f ih =>
    intro n w hn hf
    by_cases hn10 : n < 10
    · have i0 : (n : Int) < 10 := by omega
      have hw : IntKind.i64.wrap ((n : Int) + 1) = (n : Int) + 1 := by rw [IntKind.wrap_i64]; omega
      have j1 : (0 : Int) ≤ (n : Int) := by omega
      have j2 : (n : Int) ≤ (n : Int) + 1 := by omega
      have j3 : (n : Int) + 1 ≤ 10 := by omega
      have hd := dig_cut n hn10
      obtain ⟨D, hD⟩ : ∃ D, (⟨#[48, 49, 50, 51, 52, 53, 54, 55, 56, 57]⟩ : ByteArray).extract n (n + 1) = D := ⟨_, rfl⟩
      rw [hD] at hd
      clear ih
      go_enter Tryz.func58, Tryz.ntmps58
      go_wp2_with fail
      go_ret
      exact ⟨D, by omega, rfl, Below.refl _ _⟩
    · have i0 : ¬ (n : Int) < 10 := by omega
      have hq : n / 10 < 10 ^ (f + 1) := by
        rw [Nat.pow_succ 10 (f + 1)] at hn
        omega
      have CI := Lib.hid (fun X => ih (n / 10) X hq (by omega))
      obtain ⟨q, hqq⟩ : ∃ q, n / 10 = q := ⟨_, rfl⟩
      obtain ⟨m, hm⟩ : ∃ m, n % 10 = m := ⟨_, rfl⟩
      have hm10 : m < 10 := by omega
      have td : ((n : Int)).tdiv 10 = (q : Int) := by rw [← hqq]; exact (Int.ofNat_tdiv n 10).symm
      have tm : ((n : Int)).tmod 10 = (m : Int) := by rw [← hm]; exact (Int.ofNat_tmod n 10).symm
      rw [hqq] at CI
      have hw : IntKind.i64.wrap ((m : Int) + 1) = (m : Int) + 1 := by rw [IntKind.wrap_i64]; omega
      have hwq : IntKind.i64.wrap (q : Int) = (q : Int) := by
        have h10 : (10 : Nat) ^ (f + 1) ≤ 10 ^ 11 := Nat.pow_le_pow_right (by omega) (by omega)
        rw [IntKind.wrap_i64]; omega
      have j1 : (0 : Int) ≤ (m : Int) := by omega
      have j2 : (m : Int) ≤ (m : Int) + 1 := by omega
      have j3 : (m : Int) + 1 ≤ 10 := by omega
      have hd := dig_cut m hm10
      obtain ⟨D, hD⟩ : ∃ D, (⟨#[48, 49, 50, 51, 52, 53, 54, 55, 56, 57]⟩ : ByteArray).extract m (m + 1) = D := ⟨_, rfl⟩
      rw [hD] at hd
      have HD := Lib.hid hd
      clear ih hq hqq hm hn hd
      go_enter Tryz.func58, Tryz.ntmps58
      go_wp2_with fail
      go_region_held3 (fun _ => True) (trivial) (first | (go_at_call 58; (with_reducible refine (CI.out _).mono ?_); rintro e w2 ⟨s, hs, rfl, g2⟩; have HS := Lib.hid hs; have sz : ¬ 9223372036854775807 < s.size + D.size := (by have := HD.out; omega); clear hs))
      go_wp2_with fail
      go_ret
      exact ⟨s ++ D, by rw [ByteArray.size_append]; have := HD.out; have := HS.out; omega, rfl, ((Below.refl w.heap.size w).drew).trans (g2.mono (Nat.le_refl _))⟩
end

section
open Go.RowKit

theorem sz_mk (a : Array UInt8) : (⟨a⟩ : ByteArray).size = a.size := rfl
set_option maxRecDepth 100000 in
set_option maxHeartbeats 4000000 in
theorem rCheck12 (r : Rsp) (A : Option Addr) (n c : Nat) (w : World) (hr : Reads w w.heap.size 2 A n (fldsC r.flds)) (h : checkR r = 0) (hl : fldsOkR r.flds) :
    Calls Tryz.prog 56 #[rspV r A n c] w fun e w' => e = .returned (.int .i64 0) ∧ Below w.heap.size w w' := by
  obtain rfl := hr.flen
  obtain ⟨hx, hn32, hmay, hbody⟩ := check_ok h
  have hre : reasonR r.code ≠ none := by
    intro e
    have := check10 e
    omega
  obtain ⟨code, flds, body, close, head⟩ := r
  unfold rspV
  simp only at *
  have b0 : Below w.heap.size w (w.alloc (.cells #[.int .i64 code, .slice A flds.length c, .string (bs body), .bool close, .bool head] 24)) := (Below.refl _ _).alloc (Nat.le_refl _) _
  have k0 := Blk.new w 24 #[.int .i64 code, .slice A flds.length c, .string (bs body), .bool close, .bool head]
  have r0 := hr.below b0
  have c0 : (w.alloc (.cells #[.int .i64 code, .slice A flds.length c, .string (bs body), .bool close, .bool head] 24)).cell? ⟨w.heap.size, 0, none⟩ = some (.int .i64 code) := k0.cell 0
  have CR := Lib.hid (fun X => rReason12 code hre X)
  have HM := Lib.hid hmay
  have HL := Lib.hid hl
  have zb := bs_size body
  have B0 := Lib.hid b0
  have K0 := Lib.hid k0
  have R0 := Lib.hid r0
  clear b0 k0 r0 hr hx hre h hmay hl
  go_enter Tryz.func56, Tryz.ntmps56
  go_wp2_with fail
  (with_reducible refine (CR.out _).mono ?_); rintro e w1 ⟨rfl, rfl⟩
  generalize w.alloc (.cells #[.int .i64 code, .slice A flds.length c, .string (bs body), .bool close, .bool head] 24) = W0 at K0 R0 B0 c0 ⊢
  have c1 : W0.cell? ⟨w.heap.size, 1, none⟩ = some (.slice A flds.length c) := K0.out.cell 1
  have i1 : ¬ (32 : Int) < (flds.length : Int) := by omega
  clear CR
  go_wp2_with fail
  clear c0 c1
  go_loopw [5] (fun i wr => ∃ k : Nat, i = .int .i64 k ∧ k ≤ flds.length ∧ Hid (Below W0.heap.size W0 wr)) (fun i _ => flds.length - (intOf i).toNat)
  case atStart => exact ⟨0, rfl, by omega, hide (Below.refl _ _)⟩
  case round =>
    obtain ⟨k, rfl, hk, hB⟩ := hrel
    rename World => wr
    have k1 := K0.out.below hB.out K0.out.lt
    have c1 : wr.cell? ⟨w.heap.size, 1, none⟩ = some (.slice A flds.length c) := k1.cell 1
    have c2 : wr.cell? ⟨w.heap.size, 2, none⟩ = some (.string (bs body)) := k1.cell 2
    clear k1
    by_cases hlt : k < flds.length
    · obtain ⟨b, o, rfl, _, p0, p1⟩ := (R0.out.below (hB.out.mono (by have := B0.out.size; exact this))).fld k hlt
      have hm := HM.out flds[k] (List.getElem_mem hlt)
      have hz := HL.out flds[k] (List.getElem_mem hlt)
      obtain ⟨f, hf⟩ : ∃ f, flds[k] = f := ⟨_, rfl⟩
      rw [hf] at p0 p1 hm hz
      have i2 : (k : Int) < (flds.length : Int) := by omega
      have cM := rMay12 f wr (by omega) (by omega)
      rw [hm] at cM
      have CM := Lib.hid cM
      clear cM hm hf hz
      go_wp2_with fail
      (with_reducible refine (CM.out).mono ?_); rintro e w2 ⟨rfl, g2⟩
      have hB2 := Lib.hid (hB.out.trans (g2.mono hB.out.size))
      clear g2 CM
      go_wp2_with fail
      go_roundw
      case rel => exact ⟨k + 1, by go_num, by omega, hB2⟩
      case measure => simp [intOf]; omega
    · obtain rfl : k = flds.length := by omega
      have i3 : ¬ (4096 : Int) < (body.length : Int) := by omega
      go_wp2_with fail
      go_ret
      exact ⟨rfl, B0.out.trans (hB.out.mono B0.out.size)⟩
set_option maxRecDepth 100000 in
set_option maxHeartbeats 8000000 in
theorem rText12 (r : Rsp) (A : Option Addr) (n c : Nat) (w : World) (hr : Reads w w.heap.size 2 A n (fldsC r.flds)) (h : checkR r = 0) (hl : fldsOkR r.flds) :
    Calls Tryz.prog 26 #[rspV r A n c] w fun e w' => ∃ T : ByteArray, 0 < T.size ∧ e = .returned (.tuple #[.string T, .int .i64 0]) ∧ Below w.heap.size w w' := by
  obtain rfl := hr.flen
  have hh := h
  obtain ⟨⟨y, hy, hyc⟩, hn32, hmay, hbody⟩ := check_ok h
  have hre : reasonR r.code ≠ none := by
    intro e
    have := check10 e
    omega
  have hcode : ∃ m : Nat, r.code = m ∧ m ≤ 9999 := ⟨y.1, hyc.symm, by
    obtain ⟨i, hi, e1, e2⟩ := codes_at hy
    have := codeN_le i hi
    omega⟩
  have hrl : ((reasonR r.code).getD []).length ≤ 100 := by
    obtain ⟨i, hi, e1, e2⟩ := codes_at hy
    have hsl := codeS_len i hi
    have hra := reason_at ⟨i, hi⟩
    simp only at hra
    rw [e1, hyc] at hra
    rw [hra]
    simp only [Option.getD_some]
    omega
  have cC := fun X (hX : Reads X X.heap.size 2 A r.flds.length (fldsC r.flds)) => rCheck12 r A r.flds.length c X hX h hl
  obtain ⟨code, flds, body, close, head⟩ := r
  unfold rspV at *
  simp only at *
  obtain ⟨m, rfl, hm⟩ := hcode
  have b0 : Below w.heap.size w (w.alloc (.cells #[.int .i64 m, .slice A flds.length c, .string (bs body), .bool close, .bool head] 24)) := (Below.refl _ _).alloc (Nat.le_refl _) _
  have k0 := Blk.new w 24 #[.int .i64 m, .slice A flds.length c, .string (bs body), .bool close, .bool head]
  have r0 := hr.below b0
  have CC := Lib.hid (cC (w.alloc (.cells #[.int .i64 m, .slice A flds.length c, .string (bs body), .bool close, .bool head] 24)) (r0.more b0.size))
  have CR := Lib.hid (fun X => rReason12 m hre X)
  have CD := Lib.hid (fun X => rDigits12 3 m X (by omega) (by omega))
  have CE := Lib.hid (fun X => rDigits12 4 body.length X (by omega) (by omega))
  obtain ⟨X, hX⟩ : ∃ X, bs ((reasonR m).getD []) = X := ⟨_, rfl⟩
  have hXz : X.size ≤ 100 := by rw [← hX, bs_size]; exact hrl
  rw [hX] at CR
  have HL := Lib.hid hl
  have zb := bs_size body
  have B0 := Lib.hid b0
  have K0 := Lib.hid k0
  have R0 := Lib.hid r0
  clear b0 k0 r0 hr hre h hh hmay hl cC hX hrl hy hyc
  go_enter Tryz.func26, Tryz.ntmps26
  go_wp2_with fail
  (with_reducible refine (CC.out).mono ?_); rintro e w1 ⟨rfl, g1⟩
  have K1 := Lib.hid (K0.out.below g1 K0.out.lt)
  have R1 := Lib.hid (R0.out.below (g1.mono B0.out.size))
  have B1 := Lib.hid (B0.out.trans (g1.mono B0.out.size))
  have c0 : w1.cell? ⟨w.heap.size, 0, none⟩ = some (.int .i64 m) := K1.out.cell 0
  have c1 : w1.cell? ⟨w.heap.size, 1, none⟩ = some (.slice A flds.length c) := K1.out.cell 1
  have c2 : w1.cell? ⟨w.heap.size, 2, none⟩ = some (.string (bs body)) := K1.out.cell 2
  have c3 : w1.cell? ⟨w.heap.size, 3, none⟩ = some (.bool close) := K1.out.cell 3
  have c4 : w1.cell? ⟨w.heap.size, 4, none⟩ = some (.bool head) := K1.out.cell 4
  clear g1 CC K0 R0 B0
  go_wp2_with fail
  (with_reducible refine (CR.out _).mono ?_); rintro e w2 ⟨rfl, rfl⟩
  go_wp2_with fail
  (with_reducible refine (CD.out _).mono ?_); rintro e w3 ⟨D, hD, rfl, g3⟩
  have K3 := Lib.hid (K1.out.below g3 K1.out.lt)
  have R3 := Lib.hid (R1.out.below (g3.mono B1.out.size))
  have B3 := Lib.hid (B1.out.trans (g3.mono B1.out.size))
  clear g3 K1 R1 B1 c0 c1 c2 c3 c4
  have c0 : w3.cell? ⟨w.heap.size, 0, none⟩ = some (.int .i64 m) := K3.out.cell 0
  have c1 : w3.cell? ⟨w.heap.size, 1, none⟩ = some (.slice A flds.length c) := K3.out.cell 1
  have c2 : w3.cell? ⟨w.heap.size, 2, none⟩ = some (.string (bs body)) := K3.out.cell 2
  have c3 : w3.cell? ⟨w.heap.size, 3, none⟩ = some (.bool close) := K3.out.cell 3
  have c4 : w3.cell? ⟨w.heap.size, 4, none⟩ = some (.bool head) := K3.out.cell 4
  have s1 : ¬ 9223372036854775807 < 9 + D.size := by omega
  have s2 : ¬ 9223372036854775806 < 9 + D.size := by omega
  have s3 : ¬ 9223372036854775807 < 9 + D.size + 1 + X.size := by omega
  have s4 : ¬ 9223372036854775805 < 9 + D.size + 1 + X.size := by omega
  clear CR CD
  go_wp2_with fail
  clear c0 c1 c2 c3 c4
  go_loopw [7, 8] (fun s i wr => ∃ (k : Nat) (S : ByteArray), i = .int .i64 k ∧ s = .string S ∧ k ≤ flds.length ∧ 9 ≤ S.size ∧ S.size ≤ 1000 + k * 200010 ∧ Hid (Below w3.heap.size w3 wr)) (fun _ i _ => flds.length - (intOf i).toNat)
  case atStart => exact ⟨0, _, rfl, rfl, by omega, by simp only [ByteArray.size_append, sz_mk, List.size_toArray, List.length_cons, List.length_nil]; omega, by simp only [ByteArray.size_append, sz_mk, List.size_toArray, List.length_cons, List.length_nil]; omega, hide (Below.refl _ _)⟩
  case round =>
    obtain ⟨k, S, rfl, rfl, hk, hS9, hSz, hB⟩ := hrel
    rename World => wr
    have k1 := K3.out.below hB.out K3.out.lt
    have c1 : wr.cell? ⟨w.heap.size, 1, none⟩ = some (.slice A flds.length c) := k1.cell 1
    have c2 : wr.cell? ⟨w.heap.size, 2, none⟩ = some (.string (bs body)) := k1.cell 2
    have c3 : wr.cell? ⟨w.heap.size, 3, none⟩ = some (.bool close) := k1.cell 3
    have c4 : wr.cell? ⟨w.heap.size, 4, none⟩ = some (.bool head) := k1.cell 4
    clear s1 s2 s3 s4
    by_cases hlt : k < flds.length
    · obtain ⟨b, o, rfl, _, p0, p1⟩ := (R3.out.below (hB.out.mono (by have := B3.out.size; exact this))).fld k hlt
      have hz := HL.out flds[k] (List.getElem_mem hlt)
      obtain ⟨f, hf⟩ : ∃ f, flds[k] = f := ⟨_, rfl⟩
      rw [hf] at p0 p1 hz
      obtain ⟨N, hN⟩ : ∃ N, bs f.1 = N := ⟨_, rfl⟩
      obtain ⟨V, hV⟩ : ∃ V, bs f.2 = V := ⟨_, rfl⟩
      have zN : N.size ≤ 100000 := by rw [← hN, bs_size]; omega
      have zV : V.size ≤ 100000 := by rw [← hV, bs_size]; omega
      rw [hN] at p0
      rw [hV] at p1
      have i2 : (k : Int) < (flds.length : Int) := by omega
      have hSb : S.size ≤ 100000000 := by omega
      have s1 : ¬ 9223372036854775807 < S.size + N.size := by omega
      have s2 : ¬ 9223372036854775805 < S.size + N.size := by omega
      have s3 : ¬ 9223372036854775807 < S.size + N.size + 2 + V.size := by omega
      have s4 : ¬ 9223372036854775805 < S.size + N.size + 2 + V.size := by omega
      have hBd := fun n => Lib.hid (below_drewN hB.out n)
      have HBD := Lib.hid hBd
      clear hf hz hN hV k1 hBd
      go_wp2_with fail
      go_quiet (fail)
      go_wp2_with fail
      go_roundw
      case rel => exact ⟨k + 1, _, by go_num, rfl, by omega, by simp only [ByteArray.size_append, sz_mk, List.size_toArray, List.length_cons, List.length_nil]; omega, by simp only [ByteArray.size_append, sz_mk, List.size_toArray, List.length_cons, List.length_nil]; omega, HBD.out _⟩
      case measure => simp [intOf]; omega
    · obtain rfl : k = flds.length := by omega
      have hSb : S.size ≤ 100000000 := by omega
      have s1 : ¬ 9223372036854775791 < S.size := by omega
      go_wp2_with fail
      (with_reducible refine (CE.out _).mono ?_); rintro e w4 ⟨E, hE, rfl, g4⟩
      have K4 := Lib.hid (k1.below g4 k1.lt)
      have B4 := Lib.hid ((B3.out.trans (hB.out.mono B3.out.size)).trans (g4.mono (B3.out.trans (hB.out.mono B3.out.size)).size))
      clear g4 c1 c2 c3 c4
      have c2 : w4.cell? ⟨w.heap.size, 2, none⟩ = some (.string (bs body)) := K4.out.cell 2
      have c3 : w4.cell? ⟨w.heap.size, 3, none⟩ = some (.bool close) := K4.out.cell 3
      have c4 : w4.cell? ⟨w.heap.size, 4, none⟩ = some (.bool head) := K4.out.cell 4
      have s2 : ¬ 9223372036854775807 < S.size + 16 + E.size := by omega
      have s3 : ¬ 9223372036854775805 < S.size + 16 + E.size := by omega
      have t1 : ¬ 9223372036854775790 < S.size + 16 + E.size + 2 := by omega
      have t2 : ¬ 9223372036854775805 < S.size + 16 + E.size + 2 := by omega
      have t3 : ¬ 9223372036854775805 < S.size + 16 + E.size + 2 + 17 := by omega
      have t4 : ¬ 9223372036854775805 < S.size + 16 + E.size + 2 + 17 + 2 := by omega
      have u1 : ¬ 9223372036854775807 < S.size + 16 + E.size + 2 + 17 + 2 + 2 + body.length := by omega
      have u2 : ¬ 9223372036854775807 < S.size + 16 + E.size + 2 + 2 + body.length := by omega
      clear K3 R3 K4 k1
      cases close <;> cases head
      all_goals (
        go_wp2_with fail
        go_ret2
        exact ⟨_, by simp only [ByteArray.size_append, sz_mk, List.size_toArray, List.length_cons, List.length_nil]; omega, rfl, B4.out⟩)
/-- no byte that ends a line -/
def safeL (l : List UInt8) : Bool := l.all fun b => !(b == 13 || b == 10 || b == 0)
set_option maxRecDepth 100000 in
theorem rSafe12 (l : List UInt8) (w : World) (hl : l.length ≤ 1000000) (h : safeL l = true) :
    Calls Tryz.prog 27 #[.string (bs l)] w fun e w' => e = .returned (.bool true) ∧ w = w' := by
  have hz := bs_size l
  have H := Lib.hid (show ∀ b ∈ l, b ≠ 13 ∧ b ≠ 10 ∧ b ≠ 0 from fun b hb => by
    unfold safeL at h
    rw [List.all_eq_true] at h
    have := h b hb
    simp at this
    exact ⟨this.1.1, this.1.2, this.2⟩)
  clear h
  go_enter Tryz.func27, Tryz.ntmps27
  go_wp2_with fail
  go_loop [3] (fun i => ∃ k : Nat, i = .int .i64 k ∧ k ≤ l.length) (fun i => l.length - (intOf i).toNat)
  case atStart => exact ⟨0, rfl, by omega⟩
  case round =>
    obtain ⟨k, rfl, hk⟩ := hrel
    by_cases hlt : k < l.length
    · have hi : k < (bs l).size := by omega
      obtain ⟨c, hc, hb⟩ : ∃ c, l[k] = c ∧ (bs l)[k] = c := ⟨l[k], rfl, rfl⟩
      obtain ⟨n13, n10, n0⟩ := H.out l[k] (List.getElem_mem hlt)
      rw [hc] at n13 n10 n0
      have ne : ∀ d : UInt8, c ≠ d → ((c.toNat : Int) == (d.toNat : Int)) = false := fun d hd => by
        rw [beq_eq_false_iff_ne]
        intro e
        exact hd (UInt8.toNat_inj.1 (by omega))
      have q1 : ((c.toNat : Int) == 13) = false := ne 13 n13
      have q2 : ((c.toNat : Int) == 10) = false := ne 10 n10
      have q3 : ((c.toNat : Int) == 0) = false := ne 0 n0
      clear ne hc n13 n10 n0
      go_wp2_with fail
      go_round
      case rel => exact ⟨k + 1, by go_num, by omega⟩
      case measure => simp [intOf]; omega
    · obtain rfl : k = l.length := by omega
      have hd : decide ((l.length : Int) < (l.length : Int)) = false := by simp
      go_wp2_with fail
      go_ret
      exact ⟨rfl, rfl⟩
end

section
open Go.RowKit

/-- a list of fields does not lie in a block that nowhere holds its first field -/
theorem reads_not {w : World} {B n g : Nat} {A : Option Addr} {x : Fld} {l : List Fld} {t : TypeId} {cs : Array Value} (h : Reads w B 2 A n (fldsC (x :: l))) (k : Blk w g t cs) (hcs : ∀ i : Nat, cs[i]? = some (.string (bs x.1)) → cs[i + 1]? = some (.string (bs x.2)) → False) : ∀ ad, A = some ad → ad.block ≠ g := by
  intro ad e hb
  obtain ⟨b, o, e2, _, h0, h1⟩ := h.fld 0 (by simp)
  rw [e2] at e
  injection e with e
  subst e
  simp only at hb
  subst hb
  rw [k.cell] at h0 h1
  simp only [Nat.zero_mul, Nat.add_zero, List.getElem_cons_zero] at h0 h1
  exact hcs o h0 h1
theorem bs_inj {a b : List UInt8} (h : bs a = bs b) : a = b := by rw [← bs_list a, h, bs_list]
/-- a request made nowhere holds the first field of an answer -/
theorem req_apart {M p q bo : List UInt8} (hM : fourM M) {x : Fld} (hx : x = (locN, hsecT) ∨ x = textF) : ∀ i : Nat, (#[.string (bs M), .string (bs (47 :: p)), .string (bs q), .string ⟨#[]⟩, .slice none 0 0, .string (bs bo)] : Array Value)[i]? = some (.string (bs x.1)) → (#[.string (bs M), .string (bs (47 :: p)), .string (bs q), .string ⟨#[]⟩, .slice none 0 0, .string (bs bo)] : Array Value)[i + 1]? = some (.string (bs x.2)) → False := by
  intro i h1 h2
  have hx1 : x.1 = locN ∨ x.1 = textF.1 := by rcases hx with rfl | rfl; exact .inl rfl; exact .inr rfl
  have hx2 : x.2 ≠ [] := by rcases hx with rfl | rfl <;> decide
  match i with
  | 0 =>
    simp only [List.getElem?_toArray, List.getElem?_cons_zero, Option.some.injEq, Value.string.injEq] at h1
    have := bs_inj h1
    rcases hx1 with e | e <;> rw [e] at this <;> rcases hM with rfl | rfl | rfl | rfl <;> revert this <;> decide
  | 1 =>
    simp only [List.getElem?_toArray, List.getElem?_cons_succ, List.getElem?_cons_zero, Option.some.injEq, Value.string.injEq] at h1
    have := bs_inj h1
    rcases hx1 with e | e <;> rw [e] at this <;> injection this with e1 <;> revert e1 <;> decide
  | 2 =>
    simp only [List.getElem?_toArray, List.getElem?_cons_succ, List.getElem?_cons_zero, Option.some.injEq, Value.string.injEq] at h2
    exact hx2 (bs_inj (a := []) h2).symm
  | 3 =>
    simp only [List.getElem?_toArray, List.getElem?_cons_succ, List.getElem?_cons_zero, Option.some.injEq, Value.string.injEq] at h1
    have := bs_inj (a := []) h1
    rcases hx1 with e | e <;> rw [e] at this <;> cases this
  | 4 => simp at h1
  | 5 => simp at h2
  | i + 6 => simp at h1
theorem light_f00 {r : ReqP} (hm : r.method.length ≤ 4) (hp : r.path.length ≤ 41) (hq : r.query.length ≤ 40) (hbo : r.body.length ≤ 60) : LightF f00 r := light_made (b := false) (kd := 1) hm hp hq hbo
/-- an answer's fields -/
def okX (x : Fld) : Prop := x = (locN, hsecT) ∨ x = textF
theorem okX_may {x : Fld} (h : okX x) : mayR x = 0 := by rcases h with rfl | rfl; exact hsec_may; exact textF_may
theorem okX_safe {x : Fld} (h : okX x) : safeL x.1 = true ∧ safeL x.2 = true ∧ x.1.length ≤ 100 ∧ x.2.length ≤ 100 := by
  rcases h with rfl | rfl <;> decide +kernel
theorem check_send {C : Int} {FL : List Fld} {Bd : List UInt8} {close hd : Bool} (hC : reasonR C ≠ none) (hF : FL.length ≤ 2) (hx : ∀ x ∈ FL, okX x) (hB : Bd.length ≤ 4096) : checkR ⟨C, FL, Bd, close, hd⟩ = 0 := by
  have hm : mayAllR FL = 0 := mayAll_none fun f hf => okX_may (hx f hf)
  rw [check4 (r := ⟨C, FL, Bd, close, hd⟩) hC (by simp only; omega) hm, if_neg (by simp only; omega)]
theorem reason_moved {c : Int} (h : movedC c = true) : reasonR c ≠ none := by
  unfold movedC at h
  simp only [Bool.or_eq_true, beq_iff_eq] at h
  rcases h with (((h | h) | h) | h) | h <;> subst h <;> decide +kernel
theorem page_small : ∀ c ∈ ([403, 404, 405, 410, 500] : List Int), (pageT c).1.length ≤ 4096 ∧ reasonR c ≠ none := by decide +kernel
/-- the parts of an answer: code, fields, body -/
def partC (f : FoundP) (m : List UInt8) (k c : Int) : Int := if k = 1 then (if f.ok = false then 404 else if knownM m = false then 405 else 200) else if k = 2 then c else hidC k
def partF (k : Int) (loc : List UInt8) : List Fld := if k = 2 then [(locN, loc), textF] else [textF]
def partB (f : FoundP) (r : ReqP) (k : Int) : List UInt8 := if k = 1 then (if f.ok = false then (pageT 404).1 else if knownM r.method = false then (pageT 405).1 else saysT f r) else if k = 2 then [] else (pageT (hidC k)).1
theorem ans_parts {k c : Int} {loc : List UInt8} {f : FoundP} (r : ReqP) (close : Bool) (hk : 1 ≤ k) (hk2 : k ≤ 5) (h2 : k = 2 → movedC c = true ∧ mayR (locN, loc) = 0) (hf : checkF f = 0) (hs : f.ok = true → (saysT f r).length ≤ 4096) :
    answerT r k c loc f close = (⟨partC f r.method k c, partF k loc, partB f r k, close, r.method == [72, 69, 65, 68]⟩, 0) := by
  by_cases h1 : k = 1
  · subst h1
    cases ho : f.ok with
    | true =>
      rw [ans_one r close hf (hs ho)]
      unfold oneR partC partF partB
      simp only [if_true, if_neg (show ¬ (1 : Int) = 2 by decide), ho]
      by_cases hm : knownM r.method = false
      · simp [hm]
      · simp [hm]
    | false =>
      have hc : codeT r.method 1 c f = (404, 0) := by
        unfold codeT
        rw [if_neg (by decide), if_neg (by simp), if_neg (by omega), if_neg (by decide), if_neg (by decide), if_neg (by decide), if_neg (by decide), if_pos ho]
      unfold answerT partC partF partB
      rw [hc, if_neg (by simp), if_neg (by decide), if_neg (by simp)]
      simp [ho]
  · rw [ans_hid r close (by omega) hk2 h2 hf]
    unfold hidR partC partF partB
    by_cases h : k = 2
    · simp [h]
    · simp [h, h1]
theorem partF_ok {k : Int} {loc : List UInt8} (h : k = 2 → loc = hsecT) : ∀ x ∈ partF k loc, okX x := by
  unfold partF
  intro x hx
  split at hx
  · rename_i hk
    rw [h hk] at hx
    simp only [List.mem_cons, List.not_mem_nil, or_false] at hx
    exact hx
  · simp only [List.mem_cons, List.not_mem_nil, or_false] at hx
    exact .inr hx
theorem partF_cons {k : Int} {loc : List UInt8} : ∃ x l, partF k loc = x :: l ∧ (x :: l).length ≤ 2 := by
  unfold partF
  split
  · exact ⟨_, _, rfl, by simp⟩
  · exact ⟨_, _, rfl, by simp⟩
theorem part_check {k c : Int} {loc : List UInt8} {f : FoundP} {r : ReqP} {close hd : Bool} (h2 : k = 2 → movedC c = true) (hl : k = 2 → loc = hsecT) (hs : f.ok = true → (saysT f r).length ≤ 4096) :
    checkR ⟨partC f r.method k c, partF k loc, partB f r k, close, hd⟩ = 0 := by
  obtain ⟨x, l, e, hx2⟩ := partF_cons (k := k) (loc := loc)
  have hcb : reasonR (partC f r.method k c) ≠ none ∧ (partB f r k).length ≤ 4096 := by
    unfold partC partB
    by_cases h1 : k = 1
    · rw [if_pos h1, if_pos h1]
      cases ho : f.ok with
      | false => exact ⟨(page_small 404 (by simp)).2, (page_small 404 (by simp)).1⟩
      | true =>
        have e1 : ¬ (true = false) := by simp
        rw [if_neg e1, if_neg e1]
        by_cases hm : knownM r.method = false
        · rw [if_pos hm, if_pos hm]; exact ⟨(page_small 405 (by simp)).2, (page_small 405 (by simp)).1⟩
        · rw [if_neg hm, if_neg hm]; exact ⟨by decide +kernel, hs ho⟩
    · rw [if_neg h1, if_neg h1]
      by_cases h : k = 2
      · rw [if_pos h, if_pos h]; exact ⟨reason_moved (h2 h), by simp⟩
      · rw [if_neg h, if_neg h]
        have : hidC k ∈ ([403, 404, 405, 410, 500] : List Int) := by unfold hidC; split <;> (try split) <;> simp
        exact ⟨(page_small _ this).2, (page_small _ this).1⟩
  exact check_send hcb.1 (by rw [e]; exact hx2) (partF_ok hl) hcb.2
/-- GET and HEAD -/
theorem part_same {k c : Int} {f : FoundP} {p q b : List UInt8} (hn : ¬ (f.ok = true ∧ f.kind = 2)) : partC f getM k c = partC f headM k c ∧ partB f ⟨getM, p, q, b⟩ k = partB f ⟨headM, p, q, b⟩ k := by
  have e1 : knownM getM = true := rfl
  have e2 : knownM headM = true := rfl
  refine ⟨?_, ?_⟩
  · unfold partC
    rw [e1, e2]
  · unfold partB
    cases ho : f.ok with
    | false => rfl
    | true =>
      have hk : ¬ f.kind = 2 := fun e => hn ⟨ho, e⟩
      have : saysT f ⟨getM, p, q, b⟩ = saysT f ⟨headM, p, q, b⟩ := by
        unfold saysT
        rw [if_neg hk, if_neg hk]
      simp only [e1, e2, this]
end

section
open Go.RowKit

theorem rsp_apartH (C : Int) (A : Option Addr) (n c : Nat) (b : ByteArray) (cl h : Bool) {x : Fld} : ∀ i : Nat, (#[.int .i64 C, .slice A n c, .string b, .bool cl, .bool h] : Array Value)[i]? = some (.string (bs x.1)) → (#[.int .i64 C, .slice A n c, .string b, .bool cl, .bool h] : Array Value)[i + 1]? = some (.string (bs x.2)) → False := by
  intro i h1 h2
  match i with
  | 0 => simp at h1
  | 1 => simp at h1
  | 2 => simp at h2
  | 3 => simp at h1
  | 4 => simp at h1
  | i + 5 => simp at h1
set_option maxRecDepth 100000 in
set_option maxHeartbeats 8000000 in
theorem HandlerSends_true (n m : Int) (r : ReqP) (host : ByteArray) (FA : Option Addr) (fn fc : Nat) (close : Bool) (w : World) (h1 : -9223372036854775808 ≤ n ∧ n ≤ 9223372036854775807) (h2 : -9223372036854775808 ≤ m ∧ m ≤ 9223372036854775807) (hp : r.path.length ≤ 9223372036854775807) (hq : r.query.length ≤ 9223372036854775807) (hb : r.body.length ≤ 9223372036854775807) (hT : Tab42 w) (hSp : Spaces w) :
    Calls Tryz.prog 5 #[.int .i64 n, .int .i64 m, reqV r host FA fn fc, .bool close] w fun e w' => e = .returned (.bool true) ∧ Below w.heap.size w w' := by
  have HT := Lib.hid (show ∀ X, Below w.heap.size w X → Tab42 X ∧ Spaces X from fun X hX => ⟨hT.below hX, hSp.below hX⟩)
  have CK := Lib.hid (fun X (hX : Below w.heap.size w X) => pKnown42 X (HT.out X hX).1 (HT.out X hX).2)
  have cM := fun X => pMade n r host FA fn fc X h1.1 h1.2 hp hq hb
  unfold MadePost fndV reqV at cM
  unfold reqV
  have CM := Lib.hid cM
  have cO := fun X => pOutcome m X h2.1 h2.2
  unfold OutPost at cO
  have CO := Lib.hid cO
  have B0 := Lib.hid ((Below.refl w.heap.size w).alloc (Nat.le_refl _) (.cells #[.string (bs r.method), .string (bs r.path), .string (bs r.query), .string host, .slice FA fn fc, .string (bs r.body)] 33))
  have K0 := Lib.hid (Blk.new w 33 #[.string (bs r.method), .string (bs r.path), .string (bs r.query), .string host, .slice FA fn fc, .string (bs r.body)])
  have hcc : (close != close) = false := by cases close <;> rfl
  clear hT hSp cM cO h1 h2 hp hq hb
  go_enter Tryz.func5, Tryz.ntmps5
  go_wp2_with fail
  (with_reducible refine (CK.out _ B0.out).mono ?_); rintro e w1 ⟨rfl, g1⟩
  have G1 := Lib.hid (B0.out.trans (g1.mono B0.out.size))
  have K1 := Lib.hid (K0.out.below g1 K0.out.lt)
  clear g1 B0 K0 CK
  have c0 : w1.cell? ⟨w.heap.size, 0, none⟩ = some (.string (bs r.method)) := K1.out.cell 0
  have c1 : w1.cell? ⟨w.heap.size, 1, none⟩ = some (.string (bs r.path)) := K1.out.cell 1
  have c2 : w1.cell? ⟨w.heap.size, 2, none⟩ = some (.string (bs r.query)) := K1.out.cell 2
  have c3 : w1.cell? ⟨w.heap.size, 3, none⟩ = some (.string host) := K1.out.cell 3
  have c4 : w1.cell? ⟨w.heap.size, 4, none⟩ = some (.slice FA fn fc) := K1.out.cell 4
  have c5 : w1.cell? ⟨w.heap.size, 5, none⟩ = some (.string (bs r.body)) := K1.out.cell 5
  go_wp2_with fail
  (with_reducible refine (CM.out _).mono ?_); rintro e w2 ⟨b, kd0, M, p, q, bo, N, V, cn, cv, hk1, hk2, h4, hpp, hqq, hbb, rfl, rN, rV, g2⟩
  have hck := check_made b kd0 hk1 hk2
  have hok : (madeF b kd0).ok = b := by cases b <;> rfl
  have hlm : ∀ M' : List UInt8, fourM M' → LightF (madeF b kd0) ⟨M', 47 :: p, q, bo⟩ := fun M' h' => light_made (b := b) (kd := kd0) (r := ⟨M', 47 :: p, q, bo⟩) (four_len h') (by simp; omega) hqq hbb
  have hsy : ∀ M' : List UInt8, fourM M' → (madeF b kd0).ok = true → (saysT (madeF b kd0) ⟨M', 47 :: p, q, bo⟩).length ≤ 4096 := fun M' h' hb' => says_made (r := ⟨M', 47 :: p, q, bo⟩) (hok ▸ hb') hk1 hk2 (four_len h') (by simp; omega) hqq hbb
  obtain ⟨f, hf⟩ : ∃ f, madeF b kd0 = f := ⟨_, rfl⟩
  rw [hf] at rN rV hck hlm hsy ⊢
  clear hf hk1 hk2 hok
  have bX : Below w2.heap.size w2 ((w2.alloc (.cells #[.bool f.ok, .slice none f.segs.length 0, .int .i64 f.kind, .string (bs f.text), .slice N f.names.length cn, .slice V f.vals.length cv, .string (bs f.rest)] 42)).alloc (.cells #[.string (bs M), .string (bs (47 :: p)), .string (bs q), .string ⟨#[]⟩, .slice none 0 0, .string (bs bo)] 33)) := ((Below.refl _ _).alloc (Nat.le_refl _) _).alloc (by simp) _
  have kF := (Blk.new w2 42 #[.bool f.ok, .slice none f.segs.length 0, .int .i64 f.kind, .string (bs f.text), .slice N f.names.length cn, .slice V f.vals.length cv, .string (bs f.rest)]).alloc (.cells #[.string (bs M), .string (bs (47 :: p)), .string (bs q), .string ⟨#[]⟩, .slice none 0 0, .string (bs bo)] 33)
  have kQ := Blk.new (w2.alloc (.cells #[.bool f.ok, .slice none f.segs.length 0, .int .i64 f.kind, .string (bs f.text), .slice N f.names.length cn, .slice V f.vals.length cv, .string (bs f.rest)] 42)) 33 #[.string (bs M), .string (bs (47 :: p)), .string (bs q), .string ⟨#[]⟩, .slice none 0 0, .string (bs bo)]
  rw [show (w2.alloc (.cells #[.bool f.ok, .slice none f.segs.length 0, .int .i64 f.kind, .string (bs f.text), .slice N f.names.length cn, .slice V f.vals.length cv, .string (bs f.rest)] 42)).heap.size = w2.heap.size + 1 by simp] at kQ
  have KF := Lib.hid kF
  have KQ := Lib.hid kQ
  have G2 := Lib.hid ((G1.out.trans (g2.mono G1.out.size)).trans (bX.mono (G1.out.trans (g2.mono G1.out.size)).size))
  have HG := Lib.hid (show w.heap.size ≤ w2.heap.size from (G1.out.trans (g2.mono G1.out.size)).size)
  have RN := Lib.hid (rN.below bX)
  have RV := Lib.hid (rV.below bX)
  have HH := Lib.hid (And.intro hck (And.intro hlm (And.intro h4 hsy)))
  clear bX kF kQ g2 rN rV hck hlm h4 hpp hqq hbb hsy G1 K1 CM c0 c1 c2 c3 c4 c5
  go_wp2_with fail
  (with_reducible refine (CO.out _).mono ?_); rintro e w3 ⟨kd, c, why, ho1, ho2, ho3, rfl, g3⟩
  obtain ⟨loc, hloc⟩ : ∃ loc, (if kd = 2 then hsecT else []) = loc := ⟨_, rfl⟩
  rw [hloc]
  have bX : Below w3.heap.size w3 (w3.alloc (.cells #[.int .i64 kd, .string secT, .string ⟨#[]⟩, .int .i64 c, .string (bs loc), .int .i64 why] 37)) := (Below.refl _ _).alloc (Nat.le_refl _) _
  have hw23 : w2.heap.size + 1 < w3.heap.size := Nat.lt_of_lt_of_le KQ.out.lt g3.size
  have KF3 := Lib.hid ((KF.out.below g3 KF.out.lt).alloc (.cells #[.int .i64 kd, .string secT, .string ⟨#[]⟩, .int .i64 c, .string (bs loc), .int .i64 why] 37))
  have KQ3 := Lib.hid ((KQ.out.below g3 KQ.out.lt).alloc (.cells #[.int .i64 kd, .string secT, .string ⟨#[]⟩, .int .i64 c, .string (bs loc), .int .i64 why] 37))
  have KO3 := Lib.hid (Blk.new w3 37 #[.int .i64 kd, .string secT, .string ⟨#[]⟩, .int .i64 c, .string (bs loc), .int .i64 why])
  have HO2 := Lib.hid hw23
  have G3 := Lib.hid ((G2.out.trans (g3.mono G2.out.size)).trans (bX.mono (G2.out.trans (g3.mono G2.out.size)).size))
  have RN3 := Lib.hid ((RN.out.below (g3.mono (by have := KQ.out.lt; omega))).below (bX.mono (by omega)))
  have RV3 := Lib.hid ((RV.out.below (g3.mono (by have := KQ.out.lt; omega))).below (bX.mono (by omega)))
  clear bX g3 KF KQ G2 RN RV CO hw23
  go_upto_region 4 with (fail)
  generalize w3.alloc (.cells #[.int .i64 kd, .string secT, .string ⟨#[]⟩, .int .i64 c, .string (bs loc), .int .i64 why] 37) = Z3 at KF3 KQ3 KO3 G3 RN3 RV3 ⊢
  have hl2 : kd = 2 → loc = hsecT := fun e => by rw [← hloc, if_pos e]
  have hA : ∀ (M' : List UInt8), fourM M' → answerT ⟨M', 47 :: p, q, bo⟩ kd c loc f close = (⟨partC f M' kd c, partF kd loc, partB f ⟨M', 47 :: p, q, bo⟩ kd, close, M' == [72, 69, 65, 68]⟩, 0) := fun M' hM' => ans_parts ⟨M', 47 :: p, q, bo⟩ close ho1 ho2 (fun e => ⟨ho3 e, by rw [hl2 e]; exact hsec_may⟩) HH.out.1 (HH.out.2.2.2 M' hM')
  have hCk := part_check (k := kd) (c := c) (loc := loc) (f := f) (r := ⟨M, 47 :: p, q, bo⟩) (close := close) (hd := M == [72, 69, 65, 68]) ho3 hl2 (HH.out.2.2.2 M HH.out.2.2.1)
  have hFx := partF_ok hl2
  obtain ⟨x, l, hxl, hxl2⟩ := partF_cons (k := kd) (loc := loc)
  have hA1 := hA M HH.out.2.2.1
  have hAG := hA getM (.inl rfl)
  have hAH := hA headM (.inr (.inl rfl))
  have hHD : ((bs M).toList == [72, 69, 65, 68]) = (M == [72, 69, 65, 68]) := by rw [bs_toList]
  obtain ⟨C, hC⟩ : ∃ C, partC f M kd c = C := ⟨_, rfl⟩
  obtain ⟨FL, hFL⟩ : ∃ FL, partF kd loc = FL := ⟨_, rfl⟩
  obtain ⟨Bd, hBd⟩ : ∃ Bd, partB f ⟨M, 47 :: p, q, bo⟩ kd = Bd := ⟨_, rfl⟩
  obtain ⟨hd, hhd⟩ : ∃ hd, (M == [72, 69, 65, 68]) = hd := ⟨_, rfl⟩
  rw [hFL] at hA1 hAG hAH hCk hFx hxl
  simp only at hCk
  rw [hC, hBd, hhd] at hA1 hCk
  rw [hhd] at hHD
  have hhh : (hd != hd) = false := by cases hd <;> rfl
  have hFl : FL.length ≤ 2 := by rw [hxl]; exact hxl2
  have hlo : loc.length ≤ 100000 := by rw [← hloc]; split <;> decide
  have HAG := Lib.hid (And.intro hAG hAH)
  have HX := Lib.hid (And.intro hxl hFx)
  have HLO := Lib.hid hlo
  have HCK := Lib.hid hCk
  have T3 := HT.out Z3 G3.out
  have cA := pAnswer f ⟨M, 47 :: p, q, bo⟩ ⟨kd, secT, ⟨#[]⟩, c, loc, why⟩ none N V none 0 cn cv 0 0 ⟨#[]⟩ close Z3 (HH.out.2.1 _ HH.out.2.2.1) HLO.out (RN3.out.more (by have := KO3.out.lt; have := HO2.out; omega)) (RV3.out.more (by have := KO3.out.lt; have := HO2.out; omega)) T3.1 T3.2
  rw [ans_ok (hA1)] at cA
  unfold reqV outV fndV at cA
  simp only at cA
  have CA := Lib.hid cA
  clear cA T3 ho1 ho2 ho3 hloc hl2 hA hCk hFx hxl hxl2 hA1 hAG hAH hC hFL hBd hhd hlo
  have f0 : Z3.cell? ⟨w2.heap.size, 0, none⟩ = some (.bool f.ok) := KF3.out.cell 0
  have f1 : Z3.cell? ⟨w2.heap.size, 1, none⟩ = some (.slice none f.segs.length 0) := KF3.out.cell 1
  have f2 : Z3.cell? ⟨w2.heap.size, 2, none⟩ = some (.int .i64 f.kind) := KF3.out.cell 2
  have f3 : Z3.cell? ⟨w2.heap.size, 3, none⟩ = some (.string (bs f.text)) := KF3.out.cell 3
  have f4 : Z3.cell? ⟨w2.heap.size, 4, none⟩ = some (.slice N f.names.length cn) := KF3.out.cell 4
  have f5 : Z3.cell? ⟨w2.heap.size, 5, none⟩ = some (.slice V f.vals.length cv) := KF3.out.cell 5
  have f6 : Z3.cell? ⟨w2.heap.size, 6, none⟩ = some (.string (bs f.rest)) := KF3.out.cell 6
  have q0 : Z3.cell? ⟨w2.heap.size + 1, 0, none⟩ = some (.string (bs M)) := KQ3.out.cell 0
  have q1 : Z3.cell? ⟨w2.heap.size + 1, 1, none⟩ = some (.string (bs (47 :: p))) := KQ3.out.cell 1
  have q2 : Z3.cell? ⟨w2.heap.size + 1, 2, none⟩ = some (.string (bs q)) := KQ3.out.cell 2
  have q3 : Z3.cell? ⟨w2.heap.size + 1, 3, none⟩ = some (.string ⟨#[]⟩) := KQ3.out.cell 3
  have q4 : Z3.cell? ⟨w2.heap.size + 1, 4, none⟩ = some (.slice none 0 0) := KQ3.out.cell 4
  have q5 : Z3.cell? ⟨w2.heap.size + 1, 5, none⟩ = some (.string (bs bo)) := KQ3.out.cell 5
  have o0 : Z3.cell? ⟨w3.heap.size, 0, none⟩ = some (.int .i64 kd) := KO3.out.cell 0
  have o1 : Z3.cell? ⟨w3.heap.size, 1, none⟩ = some (.string secT) := KO3.out.cell 1
  have o2 : Z3.cell? ⟨w3.heap.size, 2, none⟩ = some (.string ⟨#[]⟩) := KO3.out.cell 2
  have o3 : Z3.cell? ⟨w3.heap.size, 3, none⟩ = some (.int .i64 c) := KO3.out.cell 3
  have o4 : Z3.cell? ⟨w3.heap.size, 4, none⟩ = some (.string (bs loc)) := KO3.out.cell 4
  have o5 : Z3.cell? ⟨w3.heap.size, 5, none⟩ = some (.int .i64 why) := KO3.out.cell 5
  go_wp2_with fail
  (with_reducible refine (CA.out).mono ?_); rintro e w4 ⟨A1, c1, rfl, ra, g⟩
  have bX : Below w4.heap.size w4 (w4.alloc (.cells #[.int .i64 C, .slice A1 FL.length c1, .string (bs Bd), .bool close, .bool hd] 24)) := (Below.refl _ _).alloc (Nat.le_refl _) _
  have KF4 := Lib.hid ((KF3.out.below g KF3.out.lt).alloc (.cells #[.int .i64 C, .slice A1 FL.length c1, .string (bs Bd), .bool close, .bool hd] 24))
  have KQ4 := Lib.hid ((KQ3.out.below g KQ3.out.lt).alloc (.cells #[.int .i64 C, .slice A1 FL.length c1, .string (bs Bd), .bool close, .bool hd] 24))
  have KO4 := Lib.hid ((KO3.out.below g KO3.out.lt).alloc (.cells #[.int .i64 C, .slice A1 FL.length c1, .string (bs Bd), .bool close, .bool hd] 24))
  have RN4 := Lib.hid ((RN3.out.below (g.mono (by have := KO3.out.lt; have := HO2.out; omega))).below (bX.mono (by have := (KO3.out.below g KO3.out.lt).lt; have := HO2.out; omega)))
  have RV4 := Lib.hid ((RV3.out.below (g.mono (by have := KO3.out.lt; have := HO2.out; omega))).below (bX.mono (by have := (KO3.out.below g KO3.out.lt).lt; have := HO2.out; omega)))
  have KA4 := Lib.hid (Blk.new w4 24 #[.int .i64 C, .slice A1 FL.length c1, .string (bs Bd), .bool close, .bool hd])
  have RA4 := Lib.hid ((ra.below bX).more bX.size)
  have G4 := Lib.hid ((G3.out.trans (g.mono G3.out.size)).trans (bX.mono (G3.out.trans (g.mono G3.out.size)).size))
  clear bX g ra CA KF3 KQ3 KO3 G3 RN3 RV3 o0 o1 o2 o3 o4 o5 f0 f1 f2 f3 f4 f5 f6 q0 q1 q2 q3 q4 q5
  go_upto_region 5 with (fail)
  generalize w4.alloc (.cells #[.int .i64 C, .slice A1 FL.length c1, .string (bs Bd), .bool close, .bool hd] 24) = Z4 at KF4 KQ4 KO4 RN4 RV4 KA4 RA4 G4 ⊢
  have cT := rText12 ⟨C, FL, Bd, close, hd⟩ A1 FL.length c1 Z4 RA4.out HCK.out (fun y hy => by have := okX_safe (HX.out.2 y hy); omega)
  unfold rspV at cT
  simp only at cT
  have CT := Lib.hid cT
  clear cT
  have a0 : Z4.cell? ⟨w4.heap.size, 0, none⟩ = some (.int .i64 C) := KA4.out.cell 0
  have a1 : Z4.cell? ⟨w4.heap.size, 1, none⟩ = some (.slice A1 FL.length c1) := KA4.out.cell 1
  have a2 : Z4.cell? ⟨w4.heap.size, 2, none⟩ = some (.string (bs Bd)) := KA4.out.cell 2
  have a3 : Z4.cell? ⟨w4.heap.size, 3, none⟩ = some (.bool close) := KA4.out.cell 3
  have a4 : Z4.cell? ⟨w4.heap.size, 4, none⟩ = some (.bool hd) := KA4.out.cell 4
  go_wp2_with fail
  (with_reducible refine (CT.out).mono ?_); rintro e Z5 ⟨T0, hT0, rfl, g⟩
  obtain ⟨t0, ht0⟩ : ∃ t0, bs t0 = T0 := ⟨T0.data.toList, ba_ext (by rw [bs_list])⟩
  have ht1 : t0 ≠ [] := by
    intro e
    rw [← ht0, e] at hT0
    exact absurd hT0 (by decide)
  rw [← ht0]
  obtain ⟨m1, m2⟩ := nemp_bs ht1
  have KF5 := Lib.hid (KF4.out.below g KF4.out.lt)
  have KQ5 := Lib.hid (KQ4.out.below g KQ4.out.lt)
  have KO5 := Lib.hid (KO4.out.below g KO4.out.lt)
  have RN5 := Lib.hid (RN4.out.below (g.mono (by have := KO4.out.lt; have := HO2.out; omega)))
  have RV5 := Lib.hid (RV4.out.below (g.mono (by have := KO4.out.lt; have := HO2.out; omega)))
  have KA5 := Lib.hid (KA4.out.below g KA4.out.lt)
  have RA5 := Lib.hid ((RA4.out.below g).more g.size)
  have G5 := Lib.hid (G4.out.trans (g.mono G4.out.size))
  clear g hT0 ht0 ht1 CT KF4 KQ4 KO4 RN4 RV4 KA4 RA4 G4 a0 a1 a2 a3 a4
  have a0 : Z5.cell? ⟨w4.heap.size, 0, none⟩ = some (.int .i64 C) := KA5.out.cell 0
  have a1 : Z5.cell? ⟨w4.heap.size, 1, none⟩ = some (.slice A1 FL.length c1) := KA5.out.cell 1
  have a2 : Z5.cell? ⟨w4.heap.size, 2, none⟩ = some (.string (bs Bd)) := KA5.out.cell 2
  have a3 : Z5.cell? ⟨w4.heap.size, 3, none⟩ = some (.bool close) := KA5.out.cell 3
  have a4 : Z5.cell? ⟨w4.heap.size, 4, none⟩ = some (.bool hd) := KA5.out.cell 4
  have q0 : Z5.cell? ⟨w2.heap.size + 1, 0, none⟩ = some (.string (bs M)) := KQ5.out.cell 0
  go_wp2_with fail
  clear m1 m2
  go_loop [17] (fun i => ∃ k : Nat, i = .int .i64 k ∧ k ≤ FL.length) (fun i => FL.length - (intOf i).toNat)
  case atStart => exact ⟨0, rfl, by omega⟩
  case round =>
    obtain ⟨k, rfl, hk⟩ := hrel
    by_cases hlt : k < FL.length
    · have hsf := okX_safe (HX.out.2 FL[k] (List.getElem_mem hlt))
      obtain ⟨b, o, rfl, _, p0, p1⟩ := RA5.out.fld k hlt
      obtain ⟨y, hy⟩ : ∃ y, FL[k] = y := ⟨_, rfl⟩
      rw [hy] at p0 p1 hsf
      have CS1 := Lib.hid (fun X => rSafe12 y.1 X (by omega) hsf.1)
      have CS2 := Lib.hid (fun X => rSafe12 y.2 X (by omega) hsf.2.1)
      have i0 : (0 : Int) ≤ (k : Int) := by omega
      have i1 : (k : Int) < (FL.length : Int) := by omega
      clear hsf hy
      go_wp2_with fail
      (with_reducible refine (CS1.out _).mono ?_); rintro e w6 ⟨rfl, rfl⟩
      go_wp2_with fail
      (with_reducible refine (CS2.out _).mono ?_); rintro e w6 ⟨rfl, rfl⟩
      go_wp2_with fail
      go_round
      case rel => exact ⟨k + 1, by go_num, by omega⟩
      case measure => simp [intOf]; omega
    · obtain rfl : k = FL.length := by omega
      have hdd : decide ((FL.length : Int) < (FL.length : Int)) = false := by simp
      have f0 : Z5.cell? ⟨w2.heap.size, 0, none⟩ = some (.bool f.ok) := KF5.out.cell 0
      have f2 : Z5.cell? ⟨w2.heap.size, 2, none⟩ = some (.int .i64 f.kind) := KF5.out.cell 2
      go_upto_region 13 with (fail)
      go_cut [100] (fun v wx => v = .bool (decide (f.ok = true ∧ f.kind = 2)) ∧ Z5 = wx)
      case first =>
        cases ho : f.ok with
        | false =>
          rw [ho] at f0
          go_wp2_with fail
          go_meet
          exact ⟨by simp [ho], rfl⟩
        | true =>
          rw [ho] at f0
          by_cases hk2 : f.kind = 2
          · have e2 : (f.kind == 2) = true := by rw [beq_iff_eq]; exact hk2
            have HK2 := Lib.hid hk2
            clear hk2
            go_wp2_with fail
            go_meet
            exact ⟨by simp [HK2.out, ho], rfl⟩
          · have e2 : (f.kind == 2) = false := by rw [beq_eq_false_iff_ne]; exact hk2
            have HK2 := Lib.hid hk2
            clear hk2
            go_wp2_with fail
            go_meet
            exact ⟨by simp [HK2.out, ho], rfl⟩
      case rest =>
        obtain ⟨rfl, hw⟩ := hcut
        subst hw
        by_cases hec : f.ok = true ∧ f.kind = 2
        · rw [decide_eq_true hec]
          clear hec
          go_wp2_with fail
          go_ret
          exact ⟨rfl, G5.out⟩
        rw [decide_eq_false hec]
        obtain ⟨hs1, hs2⟩ := part_same (k := kd) (c := c) (f := f) (p := 47 :: p) (q := q) (b := bo) hec
        obtain ⟨hAG, hAH⟩ := HAG.out
        rw [← hs1, ← hs2] at hAH
        obtain ⟨Cg, hCg⟩ : ∃ Cg, partC f getM kd c = Cg := ⟨_, rfl⟩
        obtain ⟨Bg, hBg⟩ : ∃ Bg, partB f ⟨getM, 47 :: p, q, bo⟩ kd = Bg := ⟨_, rfl⟩
        rw [hCg, hBg] at hAG hAH
        have HG2 := Lib.hid hAG
        have HH2 := Lib.hid hAH
        clear hec hs1 hs2 hAG hAH hCg hBg HAG f0 f2
        clear q0
        have nO : w3.heap.size ≠ w2.heap.size + 1 := KO5.out.ne_ KQ5.out (by decide)
        have nF : w2.heap.size ≠ w2.heap.size + 1 := KF5.out.ne_ KQ5.out (by decide)
        have kq := KQ5.out.set_ 0 (.string ⟨#[71, 69, 84]⟩)
        have eq6 : (#[.string (bs M), .string (bs (47 :: p)), .string (bs q), .string ⟨#[]⟩, .slice none 0 0, .string (bs bo)] : Array Value).setIfInBounds 0 (.string ⟨#[71, 69, 84]⟩) = #[.string ⟨#[71, 69, 84]⟩, .string (bs (47 :: p)), .string (bs q), .string ⟨#[]⟩, .slice none 0 0, .string (bs bo)] := by simp
        rw [eq6] at kq
        have KQ6 := Lib.hid kq
        have KO6 := Lib.hid (KO5.out.far (p := ⟨w2.heap.size + 1, 0, none⟩) nO (.string ⟨#[71, 69, 84]⟩))
        have KF6 := Lib.hid (KF5.out.far (p := ⟨w2.heap.size + 1, 0, none⟩) nF (.string ⟨#[71, 69, 84]⟩))
        have RN6 := Lib.hid (RN5.out.setCell (p := ⟨w2.heap.size + 1, 0, none⟩) (Nat.le_succ _) (.string ⟨#[71, 69, 84]⟩))
        have RV6 := Lib.hid (RV5.out.setCell (p := ⟨w2.heap.size + 1, 0, none⟩) (Nat.le_succ _) (.string ⟨#[71, 69, 84]⟩))
        have hQw : w.heap.size ≤ w2.heap.size + 1 := by have := HG.out; omega
        have G6 := Lib.hid (G5.out.setCell (p := ⟨w2.heap.size + 1, 0, none⟩) hQw (.string ⟨#[71, 69, 84]⟩))
        have z0 := KQ5.out.frozen 0
        have q0 : Z5.cell? ⟨w2.heap.size + 1, 0, none⟩ = some (.string (bs M)) := KQ5.out.cell 0
        clear nO nF kq eq6 hQw KQ5 KO5 KF5 RN5 RV5 G5 KA5 RA5 a0 a1 a2 a3 a4
        go_upto_region 16 with (fail)
        generalize Z5.setCell ⟨w2.heap.size + 1, 0, none⟩ (.string ⟨#[71, 69, 84]⟩) = Z6 at KQ6 KO6 KF6 RN6 RV6 G6 ⊢
        clear z0 q0
        have T6 := HT.out Z6 G6.out
        have cA := pAnswer f ⟨getM, 47 :: p, q, bo⟩ ⟨kd, secT, ⟨#[]⟩, c, loc, why⟩ none N V none 0 cn cv 0 0 ⟨#[]⟩ close Z6 (HH.out.2.1 _ (.inl rfl)) HLO.out (RN6.out.more (by have := KO6.out.lt; have := HO2.out; omega)) (RV6.out.more (by have := KO6.out.lt; have := HO2.out; omega)) T6.1 T6.2
        rw [ans_ok (HG2.out)] at cA
        unfold reqV outV fndV at cA
        simp only at cA
        have CA2 := Lib.hid (show Calls Tryz.prog 19 #[.agg #[.string ⟨#[71, 69, 84]⟩, .string (bs (47 :: p)), .string (bs q), .string ⟨#[]⟩, .slice none 0 0, .string (bs bo)], .agg #[.int .i64 kd, .string secT, .string ⟨#[]⟩, .int .i64 c, .string (bs loc), .int .i64 why], .agg #[.bool f.ok, .slice none f.segs.length 0, .int .i64 f.kind, .string (bs f.text), .slice N f.names.length cn, .slice V f.vals.length cv, .string (bs f.rest)], .bool close] Z6 (fun e w' => ∃ A c, e = .returned (.tuple #[.agg #[.int .i64 Cg, .slice A FL.length c, .string (bs Bg), .bool close, .bool false], .int .i64 0]) ∧ Reads w' w'.heap.size 2 A FL.length (fldsC FL) ∧ Below Z6.heap.size Z6 w') from cA)
        clear cA T6
        have f0 : Z6.cell? ⟨w2.heap.size, 0, none⟩ = some (.bool f.ok) := KF6.out.cell 0
        have f1 : Z6.cell? ⟨w2.heap.size, 1, none⟩ = some (.slice none f.segs.length 0) := KF6.out.cell 1
        have f2 : Z6.cell? ⟨w2.heap.size, 2, none⟩ = some (.int .i64 f.kind) := KF6.out.cell 2
        have f3 : Z6.cell? ⟨w2.heap.size, 3, none⟩ = some (.string (bs f.text)) := KF6.out.cell 3
        have f4 : Z6.cell? ⟨w2.heap.size, 4, none⟩ = some (.slice N f.names.length cn) := KF6.out.cell 4
        have f5 : Z6.cell? ⟨w2.heap.size, 5, none⟩ = some (.slice V f.vals.length cv) := KF6.out.cell 5
        have f6 : Z6.cell? ⟨w2.heap.size, 6, none⟩ = some (.string (bs f.rest)) := KF6.out.cell 6
        have q0 : Z6.cell? ⟨w2.heap.size + 1, 0, none⟩ = some (.string ⟨#[71, 69, 84]⟩) := KQ6.out.cell 0
        have q1 : Z6.cell? ⟨w2.heap.size + 1, 1, none⟩ = some (.string (bs (47 :: p))) := KQ6.out.cell 1
        have q2 : Z6.cell? ⟨w2.heap.size + 1, 2, none⟩ = some (.string (bs q)) := KQ6.out.cell 2
        have q3 : Z6.cell? ⟨w2.heap.size + 1, 3, none⟩ = some (.string ⟨#[]⟩) := KQ6.out.cell 3
        have q4 : Z6.cell? ⟨w2.heap.size + 1, 4, none⟩ = some (.slice none 0 0) := KQ6.out.cell 4
        have q5 : Z6.cell? ⟨w2.heap.size + 1, 5, none⟩ = some (.string (bs bo)) := KQ6.out.cell 5
        have o0 : Z6.cell? ⟨w3.heap.size, 0, none⟩ = some (.int .i64 kd) := KO6.out.cell 0
        have o1 : Z6.cell? ⟨w3.heap.size, 1, none⟩ = some (.string secT) := KO6.out.cell 1
        have o2 : Z6.cell? ⟨w3.heap.size, 2, none⟩ = some (.string ⟨#[]⟩) := KO6.out.cell 2
        have o3 : Z6.cell? ⟨w3.heap.size, 3, none⟩ = some (.int .i64 c) := KO6.out.cell 3
        have o4 : Z6.cell? ⟨w3.heap.size, 4, none⟩ = some (.string (bs loc)) := KO6.out.cell 4
        have o5 : Z6.cell? ⟨w3.heap.size, 5, none⟩ = some (.int .i64 why) := KO6.out.cell 5
        go_wp2_with fail
        (with_reducible refine (CA2.out).mono ?_); rintro e w7 ⟨A2, c2, rfl, ra, g⟩
        have bX : Below w7.heap.size w7 (w7.alloc (.cells #[.int .i64 Cg, .slice A2 FL.length c2, .string (bs Bg), .bool close, .bool false] 24)) := (Below.refl _ _).alloc (Nat.le_refl _) _
        have KF7 := Lib.hid ((KF6.out.below g KF6.out.lt).alloc (.cells #[.int .i64 Cg, .slice A2 FL.length c2, .string (bs Bg), .bool close, .bool false] 24))
        have KQ7 := Lib.hid ((KQ6.out.below g KQ6.out.lt).alloc (.cells #[.int .i64 Cg, .slice A2 FL.length c2, .string (bs Bg), .bool close, .bool false] 24))
        have KO7 := Lib.hid ((KO6.out.below g KO6.out.lt).alloc (.cells #[.int .i64 Cg, .slice A2 FL.length c2, .string (bs Bg), .bool close, .bool false] 24))
        have RN7 := Lib.hid ((RN6.out.below (g.mono (by have := KO6.out.lt; have := HO2.out; omega))).below (bX.mono (by have := (KO6.out.below g KO6.out.lt).lt; have := HO2.out; omega)))
        have RV7 := Lib.hid ((RV6.out.below (g.mono (by have := KO6.out.lt; have := HO2.out; omega))).below (bX.mono (by have := (KO6.out.below g KO6.out.lt).lt; have := HO2.out; omega)))
        have KX7 := Lib.hid (Blk.new w7 24 #[.int .i64 Cg, .slice A2 FL.length c2, .string (bs Bg), .bool close, .bool false])
        have RX7 := Lib.hid ((ra.below bX).more bX.size)
        have G7 := Lib.hid ((G6.out.trans (g.mono G6.out.size)).trans (bX.mono (G6.out.trans (g.mono G6.out.size)).size))
        clear bX g ra CA2 KF6 KQ6 KO6 G6 RN6 RV6 o0 o1 o2 o3 o4 o5 f0 f1 f2 f3 f4 f5 f6 q0 q1 q2 q3 q4 q5
        go_upto_region 17 with (fail)
        generalize w7.alloc (.cells #[.int .i64 Cg, .slice A2 FL.length c2, .string (bs Bg), .bool close, .bool false] 24) = Z7 at KF7 KQ7 KO7 RN7 RV7 KX7 RX7 G7 ⊢
        have nX : ∀ ad, A2 = some ad → ad.block ≠ w2.heap.size + 1 := by
          have h := RX7.out
          rw [HX.out.1] at h
          exact reads_not h KQ7.out (req_apart (M := getM) (.inl rfl) (HX.out.2 x (by rw [HX.out.1]; simp)))
        have nKX : w7.heap.size ≠ w2.heap.size + 1 := KX7.out.ne_ KQ7.out (by decide)
        have bS := (Below.refl 0 Z7).setCell (p := ⟨w2.heap.size + 1, 0, none⟩) (Nat.zero_le _) (.string ⟨#[72, 69, 65, 68]⟩)
        have KX8 := Lib.hid (KX7.out.far (p := ⟨w2.heap.size + 1, 0, none⟩) nKX (.string ⟨#[72, 69, 65, 68]⟩))
        have RX8 := Lib.hid ((far1 (i := 0) RX7.out nX (.string ⟨#[72, 69, 65, 68]⟩)).more bS.size)
        have nO : w3.heap.size ≠ w2.heap.size + 1 := KO7.out.ne_ KQ7.out (by decide)
        have nF : w2.heap.size ≠ w2.heap.size + 1 := KF7.out.ne_ KQ7.out (by decide)
        have kq := KQ7.out.set_ 0 (.string ⟨#[72, 69, 65, 68]⟩)
        have eq6 : (#[.string ⟨#[71, 69, 84]⟩, .string (bs (47 :: p)), .string (bs q), .string ⟨#[]⟩, .slice none 0 0, .string (bs bo)] : Array Value).setIfInBounds 0 (.string ⟨#[72, 69, 65, 68]⟩) = #[.string ⟨#[72, 69, 65, 68]⟩, .string (bs (47 :: p)), .string (bs q), .string ⟨#[]⟩, .slice none 0 0, .string (bs bo)] := by simp
        rw [eq6] at kq
        have KQ8 := Lib.hid kq
        have KO8 := Lib.hid (KO7.out.far (p := ⟨w2.heap.size + 1, 0, none⟩) nO (.string ⟨#[72, 69, 65, 68]⟩))
        have KF8 := Lib.hid (KF7.out.far (p := ⟨w2.heap.size + 1, 0, none⟩) nF (.string ⟨#[72, 69, 65, 68]⟩))
        have RN8 := Lib.hid (RN7.out.setCell (p := ⟨w2.heap.size + 1, 0, none⟩) (Nat.le_succ _) (.string ⟨#[72, 69, 65, 68]⟩))
        have RV8 := Lib.hid (RV7.out.setCell (p := ⟨w2.heap.size + 1, 0, none⟩) (Nat.le_succ _) (.string ⟨#[72, 69, 65, 68]⟩))
        have hQw : w.heap.size ≤ w2.heap.size + 1 := by have := HG.out; omega
        have G8 := Lib.hid (G7.out.setCell (p := ⟨w2.heap.size + 1, 0, none⟩) hQw (.string ⟨#[72, 69, 65, 68]⟩))
        have z0 := KQ7.out.frozen 0
        have q0 : Z7.cell? ⟨w2.heap.size + 1, 0, none⟩ = some (.string ⟨#[71, 69, 84]⟩) := KQ7.out.cell 0
        clear nO nF nX nKX bS kq eq6 hQw KQ7 KO7 KF7 RN7 RV7 G7 KX7 RX7
        go_upto_region 18 with (fail)
        generalize Z7.setCell ⟨w2.heap.size + 1, 0, none⟩ (.string ⟨#[72, 69, 65, 68]⟩) = Z8 at KQ8 KO8 KF8 RN8 RV8 G8 KX8 RX8 ⊢
        clear z0 q0
        have T8 := HT.out Z8 G8.out
        have cA := pAnswer f ⟨headM, 47 :: p, q, bo⟩ ⟨kd, secT, ⟨#[]⟩, c, loc, why⟩ none N V none 0 cn cv 0 0 ⟨#[]⟩ close Z8 (HH.out.2.1 _ (.inr (.inl rfl))) HLO.out (RN8.out.more (by have := KO8.out.lt; have := HO2.out; omega)) (RV8.out.more (by have := KO8.out.lt; have := HO2.out; omega)) T8.1 T8.2
        rw [ans_ok (HH2.out)] at cA
        unfold reqV outV fndV at cA
        simp only at cA
        have CA3 := Lib.hid (show Calls Tryz.prog 19 #[.agg #[.string ⟨#[72, 69, 65, 68]⟩, .string (bs (47 :: p)), .string (bs q), .string ⟨#[]⟩, .slice none 0 0, .string (bs bo)], .agg #[.int .i64 kd, .string secT, .string ⟨#[]⟩, .int .i64 c, .string (bs loc), .int .i64 why], .agg #[.bool f.ok, .slice none f.segs.length 0, .int .i64 f.kind, .string (bs f.text), .slice N f.names.length cn, .slice V f.vals.length cv, .string (bs f.rest)], .bool close] Z8 (fun e w' => ∃ A c, e = .returned (.tuple #[.agg #[.int .i64 Cg, .slice A FL.length c, .string (bs Bg), .bool close, .bool true], .int .i64 0]) ∧ Reads w' w'.heap.size 2 A FL.length (fldsC FL) ∧ Below Z8.heap.size Z8 w') from cA)
        clear cA T8
        have f0 : Z8.cell? ⟨w2.heap.size, 0, none⟩ = some (.bool f.ok) := KF8.out.cell 0
        have f1 : Z8.cell? ⟨w2.heap.size, 1, none⟩ = some (.slice none f.segs.length 0) := KF8.out.cell 1
        have f2 : Z8.cell? ⟨w2.heap.size, 2, none⟩ = some (.int .i64 f.kind) := KF8.out.cell 2
        have f3 : Z8.cell? ⟨w2.heap.size, 3, none⟩ = some (.string (bs f.text)) := KF8.out.cell 3
        have f4 : Z8.cell? ⟨w2.heap.size, 4, none⟩ = some (.slice N f.names.length cn) := KF8.out.cell 4
        have f5 : Z8.cell? ⟨w2.heap.size, 5, none⟩ = some (.slice V f.vals.length cv) := KF8.out.cell 5
        have f6 : Z8.cell? ⟨w2.heap.size, 6, none⟩ = some (.string (bs f.rest)) := KF8.out.cell 6
        have q0 : Z8.cell? ⟨w2.heap.size + 1, 0, none⟩ = some (.string ⟨#[72, 69, 65, 68]⟩) := KQ8.out.cell 0
        have q1 : Z8.cell? ⟨w2.heap.size + 1, 1, none⟩ = some (.string (bs (47 :: p))) := KQ8.out.cell 1
        have q2 : Z8.cell? ⟨w2.heap.size + 1, 2, none⟩ = some (.string (bs q)) := KQ8.out.cell 2
        have q3 : Z8.cell? ⟨w2.heap.size + 1, 3, none⟩ = some (.string ⟨#[]⟩) := KQ8.out.cell 3
        have q4 : Z8.cell? ⟨w2.heap.size + 1, 4, none⟩ = some (.slice none 0 0) := KQ8.out.cell 4
        have q5 : Z8.cell? ⟨w2.heap.size + 1, 5, none⟩ = some (.string (bs bo)) := KQ8.out.cell 5
        have o0 : Z8.cell? ⟨w3.heap.size, 0, none⟩ = some (.int .i64 kd) := KO8.out.cell 0
        have o1 : Z8.cell? ⟨w3.heap.size, 1, none⟩ = some (.string secT) := KO8.out.cell 1
        have o2 : Z8.cell? ⟨w3.heap.size, 2, none⟩ = some (.string ⟨#[]⟩) := KO8.out.cell 2
        have o3 : Z8.cell? ⟨w3.heap.size, 3, none⟩ = some (.int .i64 c) := KO8.out.cell 3
        have o4 : Z8.cell? ⟨w3.heap.size, 4, none⟩ = some (.string (bs loc)) := KO8.out.cell 4
        have o5 : Z8.cell? ⟨w3.heap.size, 5, none⟩ = some (.int .i64 why) := KO8.out.cell 5
        go_wp2_with fail
        (with_reducible refine (CA3.out).mono ?_); rintro e w9 ⟨A3, c3, rfl, ra, g⟩
        have bX : Below w9.heap.size w9 (w9.alloc (.cells #[.int .i64 Cg, .slice A3 FL.length c3, .string (bs Bg), .bool close, .bool true] 24)) := (Below.refl _ _).alloc (Nat.le_refl _) _
        have hX9 : w7.heap.size < w9.heap.size := Nat.lt_of_lt_of_le KX8.out.lt g.size
        have KX9 := Lib.hid ((KX8.out.below g KX8.out.lt).alloc (.cells #[.int .i64 Cg, .slice A3 FL.length c3, .string (bs Bg), .bool close, .bool true] 24))
        have RX9 := Lib.hid ((((RX8.out.below g).more g.size).below bX).more bX.size)
        have KY9 := Lib.hid (Blk.new w9 24 #[.int .i64 Cg, .slice A3 FL.length c3, .string (bs Bg), .bool close, .bool true])
        have RY9 := Lib.hid ((ra.below bX).more bX.size)
        have G9 := Lib.hid ((G8.out.trans (g.mono G8.out.size)).trans (bX.mono (G8.out.trans (g.mono G8.out.size)).size))
        have hY9 : w.heap.size ≤ w9.heap.size := (G8.out.trans (g.mono G8.out.size)).size
        have HN9 := Lib.hid (And.intro hX9 hY9)
        clear bX g ra CA3 KF8 KQ8 KO8 KX8 RX8 G8 RN8 RV8 hX9 hY9 o0 o1 o2 o3 o4 o5 f0 f1 f2 f3 f4 f5 f6 q0 q1 q2 q3 q4 q5
        go_upto_region 19 with (fail)
        generalize w9.alloc (.cells #[.int .i64 Cg, .slice A3 FL.length c3, .string (bs Bg), .bool close, .bool true] 24) = Z9 at KX9 RX9 KY9 RY9 G9 ⊢
        have x4 : Z9.cell? ⟨w7.heap.size, 4, none⟩ = some (.bool false) := KX9.out.cell 4
        have y4 : Z9.cell? ⟨w9.heap.size, 4, none⟩ = some (.bool true) := KY9.out.cell 4
        have nA : ∀ ad, A2 = some ad → ad.block ≠ w9.heap.size := by
          have h := RX9.out
          rw [HX.out.1] at h
          exact reads_not h KY9.out (rsp_apartH Cg A3 FL.length c3 (bs Bg) close true)
        have nB : ∀ ad, A3 = some ad → ad.block ≠ w9.heap.size := by
          have h := RY9.out
          rw [HX.out.1] at h
          exact reads_not h KY9.out (rsp_apartH Cg A3 FL.length c3 (bs Bg) close true)
        have bS := (Below.refl 0 Z9).setCell (p := ⟨w9.heap.size, 4, none⟩) (Nat.zero_le _) (.bool false)
        have KX10 := Lib.hid (KX9.out.far (p := ⟨w9.heap.size, 4, none⟩) (by show w7.heap.size ≠ w9.heap.size; have := HN9.out.1; omega) (.bool false))
        have ky := KY9.out.set_ 4 (.bool false)
        have eqy : (#[.int .i64 Cg, .slice A3 FL.length c3, .string (bs Bg), .bool close, .bool true] : Array Value).setIfInBounds 4 (.bool false) = #[.int .i64 Cg, .slice A3 FL.length c3, .string (bs Bg), .bool close, .bool false] := by simp
        rw [eqy] at ky
        have KY10 := Lib.hid ky
        have RX10 := Lib.hid ((far1 (i := 4) RX9.out nA (.bool false)).more bS.size)
        have RY10 := Lib.hid ((far1 (i := 4) RY9.out nB (.bool false)).more bS.size)
        have G10 := Lib.hid (G9.out.setCell (p := ⟨w9.heap.size, 4, none⟩) HN9.out.2 (.bool false))
        have z4 := KY9.out.frozen 4
        clear nA nB bS ky eqy KX9 KY9 RX9 RY9 G9
        go_upto_region 22 with (fail)
        generalize Z9.setCell ⟨w9.heap.size, 4, none⟩ (.bool false) = Z10 at KX10 KY10 RX10 RY10 G10 ⊢
        clear x4 y4 z4
        have cS := pSame42 ⟨Cg, FL, Bg, close, false⟩ A2 A3 FL.length FL.length c2 c3 Z10 RX10.out RY10.out (by omega)
        unfold rspV at cS
        simp only at cS
        have CS := Lib.hid cS
        clear cS
        have x0 : Z10.cell? ⟨w7.heap.size, 0, none⟩ = some (.int .i64 Cg) := KX10.out.cell 0
        have x1 : Z10.cell? ⟨w7.heap.size, 1, none⟩ = some (.slice A2 FL.length c2) := KX10.out.cell 1
        have x2 : Z10.cell? ⟨w7.heap.size, 2, none⟩ = some (.string (bs Bg)) := KX10.out.cell 2
        have x3 : Z10.cell? ⟨w7.heap.size, 3, none⟩ = some (.bool close) := KX10.out.cell 3
        have x4 : Z10.cell? ⟨w7.heap.size, 4, none⟩ = some (.bool false) := KX10.out.cell 4
        have y0 : Z10.cell? ⟨w9.heap.size, 0, none⟩ = some (.int .i64 Cg) := KY10.out.cell 0
        have y1 : Z10.cell? ⟨w9.heap.size, 1, none⟩ = some (.slice A3 FL.length c3) := KY10.out.cell 1
        have y2 : Z10.cell? ⟨w9.heap.size, 2, none⟩ = some (.string (bs Bg)) := KY10.out.cell 2
        have y3 : Z10.cell? ⟨w9.heap.size, 3, none⟩ = some (.bool close) := KY10.out.cell 3
        have y4 : Z10.cell? ⟨w9.heap.size, 4, none⟩ = some (.bool false) := KY10.out.cell 4
        go_wp2_with fail
        (with_reducible refine (CS.out).mono ?_); rintro e w11 ⟨rfl, g⟩
        go_wp2_with fail
        go_ret
        exact ⟨rfl, G10.out.trans (g.mono G10.out.size)⟩
end
end Go.Proofs.YthhlnpfcpgfcfaaGreatDoor
