/-
  One element more at a slice that the call owns: texts, numbers, fields. same of the statements on handlers; HandlerKnown's walk. The reference of tokens (waypostref05): of, Is. The reference of responses: small letters, which fields may be sent, reasons, digits. The reference of handlers: decimal digits, Page, a response, Error. The reference of handlers: Code. The reference of handlers: Error, Answer. waypostkit.OwnTexts and OwnFound: copies in new memory. What an outcome that came in as an argument gives; the tables of white space out of what a row lays. waypostlaw42.HandlerAnswers: true, whatever the request, the outcome and what was found.
-/
import Derived.Test.YthhlnpfcpgfcfaaGreatDoorProg
import Derived.Test.YthhlnpfcpgfcfaaGreatDoorOw
import Derived.Test.YthhlnpfcpgfcfaaGreatDoorFdP
import Derived.Test.YthhlnpfcpgfcfaaGreatDoorHa13
import Derived.Test.YthhlnpfcpgfcfaaGreatDoorSf
import Derived.Test.YthhlnpfcpgfcfaaGreatDoorTk5
import Derived.Test.YthhlnpfcpgfcfaaGreatDoorRs2
import Derived.Test.YthhlnpfcpgfcfaaGreatDoorRs8
import Derived.BigQuiet
import Derived.Deep.RegionHeld3
import Derived.Test.YthhlnpfcpgfcfaaGreatDoorHaN
import Derived.Test.YthhlnpfcpgfcfaaGreatDoorHa7
import Derived.Test.YthhlnpfcpgfcfaaGreatDoorHaOp
import Derived.Test.YthhlnpfcpgfcfaaGreatDoorHa12
namespace Go.Proofs.YthhlnpfcpgfcfaaGreatDoor

section
open Go.RowKit

theorem infoStrA : (Tryz.prog.info? 9).map (fun i => (i.zero, i.size, i.bytes)) = some (some (.string .empty), 1, 16) := by kernel_rfl
theorem infoIntA : (Tryz.prog.info? 3).map (fun i => (i.zero, i.size, i.bytes)) = some (some (.int .i64 0), 1, 8) := by kernel_rfl

def ints (l : List Nat) : List Value := l.map fun i : Nat => Value.int .i64 (i : Int)
theorem ints_app (l m : List Nat) : ints (l ++ m) = ints l ++ ints m := by simp [ints]
theorem ints_len (l : List Nat) : (ints l).length = l.length := by simp [ints]
theorem ints_get (l : List Nat) (k : Nat) (h : k < l.length) : (ints l)[k]? = some (.int .i64 l[k]) := by simp [ints, h]

theorem app_txt {base : Nat} {W : World} {v : Value} {xs : List (List UInt8)} (ho : W.ownsRow base 9 1 v xs.length (strs xs)) (hb : base ≤ W.heap.size) (hl : xs.length ≤ 1000000) (y : List UInt8) :
    ∃ v' w5, (Builtin.append_ #[38, 38] 38 #[v, .slice (some ⟨W.heap.size, 0, none⟩) 1 1]).run Tryz.prog (W.alloc (.cells #[.string (bs y)] 9)) = .ok v' w5 ∧ w5.ownsRow base 9 1 v' (xs ++ [y]).length (strs (xs ++ [y])) ∧
      Below base W w5 ∧ W.grownBy w5 v.ownBlock := by
  obtain ⟨i0, hi, hz0, hz1, hz2⟩ := info_parts infoStrA
  obtain ⟨v', w5, hrun, hown, hg, hlt, _⟩ := app_one (P := Tryz.prog) 38 38 9 i0 (.string .empty) 1 16 Tryz.underlying38 hi hz0 hz1 hz2 rfl (by decide) base W v _ _ ho #[.string (bs y)] rfl (by intro u hu; simp at hu; subst hu; rfl) 9 (by unfold maxLen; omega) (by omega) hb
  refine ⟨v', w5, hrun, ?_, (Below.refl base W).grown hg hb (own_ge ho), hg⟩
  rw [strs_app, List.length_append]; exact hown
theorem app_int {base : Nat} {W : World} {v : Value} {xs : List Nat} (ho : W.ownsRow base 3 1 v xs.length (ints xs)) (hb : base ≤ W.heap.size) (hl : xs.length ≤ 1000000) (y : Nat) :
    ∃ v' w5, (Builtin.append_ #[88, 88] 88 #[v, .slice (some ⟨W.heap.size, 0, none⟩) 1 1]).run Tryz.prog (W.alloc (.cells #[.int .i64 y] 3)) = .ok v' w5 ∧ w5.ownsRow base 3 1 v' (xs ++ [y]).length (ints (xs ++ [y])) ∧
      Below base W w5 ∧ W.grownBy w5 v.ownBlock := by
  obtain ⟨i0, hi, hz0, hz1, hz2⟩ := info_parts infoIntA
  obtain ⟨v', w5, hrun, hown, hg, hlt, _⟩ := app_one (P := Tryz.prog) 88 88 3 i0 (.int .i64 0) 1 8 Tryz.underlying88 hi hz0 hz1 hz2 rfl (by decide) base W v _ _ ho #[.int .i64 y] rfl (by intro u hu; simp at hu; subst hu; rfl) 3 (by unfold maxLen; omega) (by omega) hb
  refine ⟨v', w5, hrun, ?_, (Below.refl base W).grown hg hb (own_ge ho), hg⟩
  rw [ints_app, List.length_append]; exact hown
end

section
open Go.RowKit

set_option maxRecDepth 100000 in
set_option maxHeartbeats 4000000 in
theorem pSame42 (r : Rsp) (A B : Option Addr) (n m c d : Nat) (w : World) (hr : Reads w w.heap.size 2 A n (fldsC r.flds)) (ht : Reads w w.heap.size 2 B m (fldsC r.flds)) (hn : n ≤ 1000000) :
    Calls Tryz.prog 21 #[rspV r A n c, rspV r B m d] w fun e w' => e = .returned (.bool true) ∧ Below w.heap.size w w' := by
  obtain rfl := hr.flen
  obtain rfl := ht.flen
  obtain ⟨code, flds, body, close, head⟩ := r
  unfold rspV
  simp only at *
  have bX : Below w.heap.size w ((w.alloc (.cells #[.int .i64 code, .slice A flds.length c, .string (bs body), .bool close, .bool head] 24)).alloc (.cells #[.int .i64 code, .slice B flds.length d, .string (bs body), .bool close, .bool head] 24)) := ((Below.refl _ _).alloc (Nat.le_refl _) _).alloc (by simp) _
  have kX := (Blk.new w 24 #[.int .i64 code, .slice A flds.length c, .string (bs body), .bool close, .bool head]).alloc (.cells #[.int .i64 code, .slice B flds.length d, .string (bs body), .bool close, .bool head] 24)
  have kZ := Blk.new (w.alloc (.cells #[.int .i64 code, .slice A flds.length c, .string (bs body), .bool close, .bool head] 24)) 24 #[.int .i64 code, .slice B flds.length d, .string (bs body), .bool close, .bool head]
  rw [show (w.alloc (.cells #[.int .i64 code, .slice A flds.length c, .string (bs body), .bool close, .bool head] 24)).heap.size = w.heap.size + 1 by simp] at kZ
  have cS := SameFieldsR A B flds.length flds.length c d flds flds _ ((hr.below bX).more bX.size) ((ht.below bX).more bX.size) hn hn
  rw [decide_eq_true (rfl : flds = flds)] at cS
  have CS := Lib.hid cS
  have e0 : (code == code) = true := by simp
  have e1 : ((bs body).toList == (bs body).toList) = true := by simp
  have KX := Lib.hid kX
  have KZ := Lib.hid kZ
  have BX := Lib.hid bX
  clear bX kX kZ hr ht cS
  cases close <;> cases head
  all_goals (
    have c0 := KX.out.cell 0
    have c1 := KX.out.cell 1
    have c2 := KX.out.cell 2
    have c3 := KX.out.cell 3
    have c4 := KX.out.cell 4
    have d0 := KZ.out.cell 0
    have d1 := KZ.out.cell 1
    have d2 := KZ.out.cell 2
    have d3 := KZ.out.cell 3
    have d4 := KZ.out.cell 4
    simp only [List.getElem?_toArray, List.getElem?_cons_zero, List.getElem?_cons_succ] at c0 c1 c2 c3 c4 d0 d1 d2 d3 d4
    go_enter Tryz.func21, Tryz.ntmps21
    go_wp2_with fail
    (with_reducible refine (CS.out).mono ?_); rintro e w1 ⟨rfl, k, rfl⟩
    go_wp2_with fail
    go_ret
    exact ⟨rfl, below_drewN BX.out k⟩)
end

section
open Go.RowKit

def oth : ByteArray := ⟨#[33, 35, 36, 37, 38, 39, 42, 43, 45, 46, 94, 95, 96, 124, 126]⟩
theorem oth_list : oth.data.toList = tokO := rfl
theorem tok_iff (n : Nat) : tokP n = (decide (48 ≤ n ∧ n ≤ 57 ∨ 65 ≤ n ∧ n ≤ 90 ∨ 97 ≤ n ∧ n ≤ 122) || inB tokO n) := by
  simp only [tokP, anyP, inR, tokR, List.any_cons, List.any_nil, Bool.or_false]
  congr 1
  simp only [Bool.decide_or]
theorem inB_take (l : List UInt8) (k : Nat) (hk : k < l.length) (n : Nat) : inB (l.take (k + 1)) n = (inB (l.take k) n || decide (n = l[k].toNat)) := by
  rw [List.take_succ_eq_append_getElem hk, inB_snoc]
theorem inB_mem (l : List UInt8) (k : Nat) (hk : k < l.length) (n : Nat) (h : n = l[k].toNat) : inB l n = true := by
  simp only [inB, List.any_eq_true]; exact ⟨l[k], List.getElem_mem hk, by simp [h]⟩

set_option maxRecDepth 100000 in
set_option maxHeartbeats 4000000 in
theorem rof (c : UInt8) (w : World) :
    Calls Tryz.prog 107 #[.int .u8 c.toNat] w fun e w' => e = .returned (.bool (tokB c)) ∧ w = w' := by
  unfold tokB
  have hc := c.toNat_lt
  obtain ⟨n, hn⟩ : ∃ n, c.toNat = n := ⟨_, rfl⟩
  rw [hn] at hc ⊢
  have h7 : (48 ≤ n ∧ n ≤ 57) ∨ (97 ≤ n ∧ n ≤ 122) ∨ (65 ≤ n ∧ n ≤ 90) ∨ n < 48 ∨ (57 < n ∧ n < 65) ∨ (90 < n ∧ n < 97) ∨ 122 < n := by omega
  by_cases hT : (48 ≤ n ∧ n ≤ 57) ∨ (97 ≤ n ∧ n ≤ 122) ∨ (65 ≤ n ∧ n ≤ 90)
  · have hv : tokP n = true := by rw [tok_iff, Bool.or_eq_true]; exact .inl (by simp; omega)
    rw [hv]
    clear h7
    rcases hT with ⟨h1, h2⟩ | ⟨h1, h2⟩ | ⟨h1, h2⟩
    all_goals (
      go_enter Tryz.func107, Tryz.ntmps107
      go_wp2_with fail
      go_ret
      exact ⟨rfl, rfl⟩)
  · have h4 : n < 48 ∨ (57 < n ∧ n < 65) ∨ (90 < n ∧ n < 97) ∨ 122 < n := by omega
    have hv : tokP n = inB tokO n := by
      rw [tok_iff]
      have : decide (48 ≤ n ∧ n ≤ 57 ∨ 65 ≤ n ∧ n ≤ 90 ∨ 97 ≤ n ∧ n ≤ 122) = false := by simp; omega
      rw [this, Bool.false_or]
    clear h7 hT
    rw [hv]
    obtain ⟨R, hR⟩ : ∃ R, inB tokO n = R := ⟨_, rfl⟩
    rw [hR]
    have HR := Lib.hid hR
    clear hR hv
    rcases h4 with h1 | ⟨h1, h2⟩ | ⟨h1, h2⟩ | h1
    all_goals (
      go_enter Tryz.func107, Tryz.ntmps107
      go_wp2_with fail
      go_loop [3] (fun i => ∃ k : Nat, i = .int .i64 k ∧ k ≤ 15 ∧ Hid (inB (tokO.take k) n = false)) (fun i => 15 - (intOf i).toNat)
      case atStart => exact ⟨0, rfl, by omega, hide rfl⟩
      case round =>
        obtain ⟨k, rfl, hk, HN⟩ := hrel
        by_cases hlt : k < 15
        · have hkt : k < tokO.length := hlt
          have hidx : ((⟨#[33, 35, 36, 37, 38, 39, 42, 43, 45, 46, 94, 95, 96, 124, 126]⟩ : ByteArray)[k]'hlt) = tokO[k] := rfl
          by_cases he : tokO[k].toNat = n
          · have hb : (((((⟨#[33, 35, 36, 37, 38, 39, 42, 43, 45, 46, 94, 95, 96, 124, 126]⟩ : ByteArray)[k]'hlt).toNat : Nat) : Int) == (n : Int)) = true := eqb_t (by rw [hidx]; omega)
            have hres : R = true := by rw [← HR.out]; exact inB_mem _ k hkt _ (by omega)
            subst hres
            go_wp2_with fail
            go_ret
            exact ⟨rfl, rfl⟩
          · have hb : (((((⟨#[33, 35, 36, 37, 38, 39, 42, 43, 45, 46, 94, 95, 96, 124, 126]⟩ : ByteArray)[k]'hlt).toNat : Nat) : Int) == (n : Int)) = false := eqb_f (by rw [hidx]; omega)
            go_wp2_with fail
            go_round
            case rel =>
              refine ⟨k + 1, by go_num, by omega, hide ?_⟩
              rw [inB_take _ _ hkt, HN.out]
              simp; omega
            case measure => simp [intOf]; omega
        · have hk15 : k = 15 := by omega
          subst hk15
          have hd : decide ((15 : Int) < 15) = false := by simp
          have hres : R = false := by rw [← HR.out]; exact HN.out
          subst hres
          go_wp2_with fail
          go_ret
          exact ⟨rfl, rfl⟩)

theorem isTok_iff (s : ByteArray) : isTok s.data.toList = (!(s.data.toList.isEmpty) && s.data.toList.all tokB) := rfl
theorem all_snoc_false (l : List UInt8) (k : Nat) (hk : k < l.length) (p : UInt8 → Bool) (h : p l[k] = false) : l.all p = false := by
  rw [List.all_eq_false]; exact ⟨l[k], List.getElem_mem hk, by simp [h]⟩

set_option maxRecDepth 100000 in
set_option maxHeartbeats 4000000 in
theorem rIs (s : ByteArray) (w : World) (hs : s.size ≤ 9223372036854775807) :
    Calls Tryz.prog 78 #[.string s] w fun e w' => e = .returned (.bool (isTok s.data.toList)) ∧ w = w' := by
  obtain ⟨R, hR⟩ : ∃ R, isTok s.data.toList = R := ⟨_, rfl⟩
  rw [hR]
  have HR := Lib.hid hR
  have CO := Lib.hid rof
  clear hR
  go_enter Tryz.func78, Tryz.ntmps78
  go_wp2_with fail
  go_loop [3] (fun i => ∃ k : Nat, i = .int .i64 k ∧ k ≤ s.size ∧ Hid (∀ b ∈ s.data.toList.take k, tokB b = true)) (fun i => s.size - (intOf i).toNat)
  case atStart => exact ⟨0, rfl, by omega, hide (by simp)⟩
  case round =>
    obtain ⟨k, rfl, hk, HT⟩ := hrel
    by_cases hlt : k < s.size
    · go_wp2_with fail
      (with_reducible refine (CO.out _ _).mono ?_); rintro e w1 ⟨rfl, rfl⟩
      rcases Bool.eq_false_or_eq_true (tokB s[k]) with ht | ht
      · rw [ht]
        go_wp2_with fail
        go_round
        case rel =>
          refine ⟨k + 1, by go_num, by omega, hide ?_⟩
          have hkl : k < s.data.toList.length := by rw [size_l]; omega
          rw [List.take_succ_eq_append_getElem hkl]
          intro b hb
          rcases List.mem_append.1 hb with hb | hb
          · exact HT.out b hb
          · rw [List.mem_singleton.1 hb]; exact ht
        case measure => simp [intOf]; omega
      · have hres : R = false := by
          rw [← HR.out, isTok_iff, all_snoc_false s.data.toList k (by rw [size_l]; omega) tokB ht]; simp
        rw [ht]
        subst hres
        go_wp2_with fail
        go_ret
        exact ⟨rfl, rfl⟩
    · have hkl : k = s.size := by omega
      subst hkl
      have hd : decide ((s.size : Int) < (s.size : Int)) = false := by simp
      have hall : s.data.toList.all tokB = true := by
        rw [List.all_eq_true]
        intro b hb
        exact HT.out b (by rw [List.take_of_length_le (by rw [size_l]; omega)]; exact hb)
      have hres : (!(s.toList.isEmpty)) = R := by rw [← HR.out, isTok_iff, hall, Lib.toList_data, Bool.and_true]
      go_wp2_with fail
      go_ret
      exact ⟨rfl, rfl⟩
end

section
open Go.RowKit

set_option maxRecDepth 100000 in
set_option maxHeartbeats 4000000 in
theorem rLow12 (l : List UInt8) (w : World) (hl : l.length ≤ 1000000) :
    Calls Tryz.prog 77 #[.string (bs l)] w fun e w' => e = .returned (.string (bs (lowL l))) ∧ Below w.heap.size w w' := by
  obtain ⟨s, hs0⟩ : ∃ s, bs l = s := ⟨_, rfl⟩
  have hlow : bs (lowL l) = low s := by rw [← hs0]; unfold low; rw [bs_list]; rfl
  have hs : s.size ≤ 1000000 := by rw [← hs0, bs_size]; exact hl
  rw [hs0, hlow]
  clear hs0 hlow hl
  obtain ⟨cap, w1, hr, hb1, hsz, hbi, hfz⟩ := bytes_of_string (P := Tryz.prog) 9 66 5 Tryz.underlying9 Tryz.underlying66 Tryz.underlying5 w s
  have HBI := Lib.hid hbi
  have HFZ := Lib.hid hfz
  clear hbi hfz
  go_enter Tryz.func77, Tryz.ntmps77
  go_wp2_with fail
  go_loopw [4] (fun i wr => ∃ k : Nat, i = .int .i64 k ∧ k ≤ s.size ∧ Hid (LowK wr w.heap.size s k) ∧ Hid (∀ j, j < s.size → wr.frozen? ⟨w.heap.size, j, none⟩ = false) ∧ Below w.heap.size w wr) (fun i _ => s.size - (intOf i).toNat)
  case atStart => exact ⟨0, rfl, by omega, hide (fun j hj => by rw [if_neg (by omega)]; exact HBI.out j hj), hide HFZ.out, hb1⟩
  case round =>
    obtain ⟨k, rfl, hk, HL, HF, hb⟩ := hrel
    rename World => W0
    by_cases hlt : k < s.size
    · obtain ⟨c, hc⟩ : ∃ c, s[k] = c := ⟨_, rfl⟩
      have hcell : W0.cell? ⟨w.heap.size, k, none⟩ = some (.int .u8 c.toNat) := by rw [HL.out k hlt, if_neg (by omega), hc]
      have hfz := HF.out k hlt
      obtain ⟨n, hn⟩ : ∃ n, c.toNat = n := ⟨_, rfl⟩
      have hn8 : n < 256 := by rw [← hn]; exact c.toNat_lt
      rw [hn] at hcell
      by_cases hu : 65 ≤ n ∧ n ≤ 90
      · obtain ⟨h1, h2⟩ := hu
        have hw1 : IntKind.u8.wrap ((n : Int) - 65) = (n : Int) - 65 := by rw [IntKind.wrap_u8]; omega
        have hw2 : IntKind.u8.wrap ((n : Int) - 65 + 97) = ((n + 32 : Nat) : Int) := by rw [IntKind.wrap_u8]; omega
        go_wp2_with fail
        go_roundw
        case rel =>
          refine ⟨k + 1, by go_num, by omega, hide (HL.out.step hlt _ ?_), hide fun j hj => by rw [World.frozen?_setCell]; exact HF.out j hj, hb.setCell (by simp) _⟩
          rw [hc, lowB_up (by omega), hn]
          omega
        case measure => simp [intOf]; omega
      · have hno : lowB s[k] = s[k] := lowB_no (by rw [hc, hn]; exact hu)
        have rest : 65 ≤ n ∧ 90 < n ∨ n < 65 := by omega
        rcases rest with ⟨h1, h2⟩ | h1
        all_goals (
          try have hd2 : decide ((n : Int) ≤ 90) = false := by simp; omega
          try have hd1 : decide ((65 : Int) ≤ (n : Int)) = false := by simp; omega
          go_wp2_with fail
          go_roundw
          case rel => exact ⟨k + 1, by go_num, by omega, hide (HL.out.skip hlt hno), HF, hb⟩
          case measure => simp [intOf]; omega)
    · have hkl : k = s.size := by omega
      subst hkl
      have hd : decide ((s.size : Int) < (s.size : Int)) = false := by simp
      have hll : (lowL s.data.toList).length = s.size := by rw [lowL, List.length_map, size_l]
      have hcv := run_convert_bytes_back (P := Tryz.prog) W0 66 9 5 ⟨w.heap.size, 0, none⟩ cap (lowL s.data.toList) Tryz.underlying66 Tryz.underlying5 Tryz.underlying9 (fun j hj => by
        rw [hll] at hj
        rw [Addr.add_lit, Nat.zero_add, HL.out j hj, if_pos hj]
        simp only [lowL, List.getElem_map]
        rfl)
      rw [hll] at hcv
      go_wp2_with fail
      go_ret
      exact ⟨rfl, hb⟩
/-- a byte that a value may have at a place -/
def okAt (l : List UInt8) (k : Nat) : Prop := (l.take k).any offB = false ∧ (0 < k → l.head? ≠ some 32) ∧ (k = l.length → l.getLast? ≠ some 32)
theorem may3 {f : Fld} (h : ¬ (isTok f.1 = false ∨ 40 < f.1.length ∨ ownR f.1 = true)) (h2 : ¬ 1024 < f.2.length) (h3 : f.2.head? = some 32 ∨ f.2.getLast? = some 32 ∨ f.2.any offB = true) : mayR f = 3 := by
  unfold mayR
  rw [if_neg h, if_neg h2]
  exact if_pos h3
theorem may0 {f : Fld} (h : ¬ (isTok f.1 = false ∨ 40 < f.1.length ∨ ownR f.1 = true)) (h2 : ¬ 1024 < f.2.length) (h3 : okAt f.2 f.2.length) : mayR f = 0 := by
  obtain ⟨a, b, c⟩ := h3
  rw [List.take_length] at a
  unfold mayR
  rw [if_neg h, if_neg h2]
  refine if_neg ?_
  rintro (h3 | h3 | h3)
  · cases hf : f.2 with
    | nil => rw [hf] at h3; cases h3
    | cons x t => exact b (by rw [hf]; simp) h3
  · exact c rfl h3
  · have : f.2.any offB = true := h3
    rw [a] at this; cases this
theorem head_at {l : List UInt8} {c : UInt8} {k : Nat} (h : k < l.length) (hc : l[k] = c) (h0 : k = 0) : l.head? = some c := by
  subst h0
  cases l with
  | nil => simp at h
  | cons x t => simp at hc ⊢; exact hc
theorem last_at {l : List UInt8} {c : UInt8} {k : Nat} (h : k < l.length) (hc : l[k] = c) (h0 : k + 1 = l.length) : l.getLast? = some c := by
  rw [List.getLast?_eq_getElem?, show l.length - 1 = k by omega, List.getElem?_eq_getElem h, hc]
theorem okAt_succ {l : List UInt8} {c : UInt8} {k : Nat} (h : okAt l k) (hk : k < l.length) (hc : l[k] = c) (ho : offB c = false) (h32 : c = 32 → k ≠ 0 ∧ k + 1 ≠ l.length) : okAt l (k + 1) := by
  refine ⟨any_off_take hk h.1 (by rw [hc]; exact ho), fun _ e => ?_, fun e1 e2 => ?_⟩
  · rcases Nat.eq_zero_or_pos k with h0 | h0
    · rw [head_at hk hc h0] at e
      exact (h32 (Option.some.inj e)).1 h0
    · exact h.2.1 h0 e
  · rw [last_at hk hc e1] at e2
    exact (h32 (Option.some.inj e2)).2 e1
set_option maxRecDepth 100000 in
set_option maxHeartbeats 8000000 in
theorem rMay12 (f : Fld) (w : World) (h1 : f.1.length ≤ 1000000) (h2 : f.2.length ≤ 1000000) :
    Calls Tryz.prog 49 #[.agg #[.string (bs f.1), .string (bs f.2)]] w fun e w' => e = .returned (.int .i64 (mayR f : Nat)) ∧ Below w.heap.size w w' := by
  obtain ⟨M, hM⟩ : ∃ M, mayR f = M := ⟨_, rfl⟩
  rw [hM]
  have HM0 := Lib.hid hM
  clear hM
  have b0 : Below w.heap.size w (w.alloc (.cells #[.string (bs f.1), .string (bs f.2)] 57)) := (Below.refl _ _).alloc (Nat.le_refl _) _
  have k0 := Blk.new w 57 #[.string (bs f.1), .string (bs f.2)]
  have c0 : (w.alloc (.cells #[.string (bs f.1), .string (bs f.2)] 57)).cell? ⟨w.heap.size, 0, none⟩ = some (.string (bs f.1)) := k0.cell 0
  have cL := rLow12 f.1 (w.alloc (.cells #[.string (bs f.1), .string (bs f.2)] 57)) h1
  have cI := fun X => rIs (bs f.1) X (by rw [bs_size]; omega)
  rw [bs_list] at cI
  have z1 := bs_size f.1
  have z2 := bs_size f.2
  have z3 := bs_size (lowL f.1)
  have z4 : (lowL f.1).length = f.1.length := by simp [lowL]
  rw [z4] at z3
  have B0 := Lib.hid b0
  have K0 := Lib.hid k0
  have CL := Lib.hid cL
  have CI := Lib.hid cI
  clear b0 k0 cL cI
  go_enter Tryz.func49, Tryz.ntmps49
  go_wp2_with fail
  (with_reducible refine (CL.out).mono ?_); rintro e w1 ⟨rfl, g1⟩
  have K1 := Lib.hid (K0.out.below g1 K0.out.lt)
  have G1 := Lib.hid (B0.out.trans (g1.mono B0.out.size))
  have d0 : w1.cell? ⟨w.heap.size, 0, none⟩ = some (.string (bs f.1)) := K1.out.cell 0
  have d1 : w1.cell? ⟨w.heap.size, 1, none⟩ = some (.string (bs f.2)) := K1.out.cell 1
  clear g1 CL K0 B0 c0
  by_cases hn : 40 < f.1.length
  · have hm := may11 (f := f) (.inr (.inl hn))
    have HMM := Lib.hid hm
    clear hm
    have i1 : (40 : Int) < (f.1.length : Int) := by omega
    go_wp2_with fail
    go_ret
    exact ⟨by rw [← HM0.out, HMM.out]; rfl, G1.out⟩
  have i1 : ¬ (40 : Int) < (f.1.length : Int) := by omega
  cases ht : isTok f.1 with
  | false =>
    have hm := may11 (f := f) (.inl ht)
    have HMM := Lib.hid hm
    clear hm
    rw [ht] at CI
    go_wp2_with fail
    (with_reducible refine (CI.out _).mono ?_); rintro e w2 ⟨rfl, rfl⟩
    go_wp2_with fail
    go_ret
    exact ⟨by rw [← HM0.out, HMM.out]; rfl, G1.out⟩
  | true =>
    rw [ht] at CI
    by_cases e1 : lowL f.1 = [99, 111, 110, 116, 101, 110, 116, 45, 108, 101, 110, 103, 116, 104]
    · have hm := may11 (f := f) (.inr (.inr (by unfold ownR; simp [e1])))
      have HMM := Lib.hid hm
      clear hm
      have m1 := lit_t e1
      clear e1
      go_wp2_with fail
      (with_reducible refine (CI.out _).mono ?_); rintro e w2 ⟨rfl, rfl⟩
      go_wp2_with fail
      go_ret
      exact ⟨by rw [← HM0.out, HMM.out]; rfl, G1.out⟩
    have m1 := lit_f e1
    by_cases e2 : lowL f.1 = [116, 114, 97, 110, 115, 102, 101, 114, 45, 101, 110, 99, 111, 100, 105, 110, 103]
    · have hm := may11 (f := f) (.inr (.inr (by unfold ownR; simp [e2])))
      have HMM := Lib.hid hm
      clear hm
      have m2 := lit_t e2
      clear e1 e2
      go_wp2_with fail
      (with_reducible refine (CI.out _).mono ?_); rintro e w2 ⟨rfl, rfl⟩
      go_wp2_with fail
      go_ret
      exact ⟨by rw [← HM0.out, HMM.out]; rfl, G1.out⟩
    have m2 := lit_f e2
    by_cases e3 : lowL f.1 = [99, 111, 110, 110, 101, 99, 116, 105, 111, 110]
    · have hm := may11 (f := f) (.inr (.inr (by unfold ownR; simp [e3])))
      have HMM := Lib.hid hm
      clear hm
      have m3 := lit_t e3
      clear e1 e2 e3
      go_wp2_with fail
      (with_reducible refine (CI.out _).mono ?_); rintro e w2 ⟨rfl, rfl⟩
      go_wp2_with fail
      go_ret
      exact ⟨by rw [← HM0.out, HMM.out]; rfl, G1.out⟩
    have m3 := lit_f e3
    have hno : ¬ (isTok f.1 = false ∨ 40 < f.1.length ∨ ownR f.1 = true) := by
      rintro (h | h | h)
      · rw [ht] at h; cases h
      · exact hn h
      · unfold ownR at h; simp [e1, e2, e3] at h
    have HNO := Lib.hid hno
    clear e1 e2 e3 hno ht
    by_cases hl : 1024 < f.2.length
    · have hm := may4 (f := f) HNO.out hl
      have HMM := Lib.hid hm
      clear hm
      have i2 : (1024 : Int) < (f.2.length : Int) := by omega
      go_wp2_with fail
      (with_reducible refine (CI.out _).mono ?_); rintro e w2 ⟨rfl, rfl⟩
      go_wp2_with fail
      go_ret
      exact ⟨by rw [← HM0.out, HMM.out]; rfl, G1.out⟩
    have i2 : ¬ (1024 : Int) < (f.2.length : Int) := by omega
    go_wp2_with fail
    (with_reducible refine (CI.out _).mono ?_); rintro e w2 ⟨rfl, rfl⟩
    go_wp2_with fail
    go_loop [4] (fun i => ∃ k : Nat, i = .int .i64 k ∧ k ≤ f.2.length ∧ Hid (okAt f.2 k)) (fun i => f.2.length - (intOf i).toNat)
    case atStart => exact ⟨0, rfl, by omega, hide ⟨by simp, fun h => absurd h (by omega), fun h e => by
      have : f.2 = [] := List.eq_nil_of_length_eq_zero h.symm
      rw [this] at e; cases e⟩⟩
    case round =>
      obtain ⟨k, rfl, hk, hO⟩ := hrel
      by_cases hlt : k < f.2.length
      · have hi : k < (bs f.2).size := by omega
        obtain ⟨c, hc, hb⟩ : ∃ c, f.2[k] = c ∧ (bs f.2)[k] = c := ⟨f.2[k], rfl, rfl⟩
        have HC := Lib.hid hc
        clear hc
        obtain ⟨n, hnn⟩ : ∃ n, c.toNat = n := ⟨_, rfl⟩
        have hn8 : n < 256 := by rw [← hnn]; exact c.toNat_lt
        have HN := Lib.hid hnn
        have hnI : ((c.toNat : Nat) : Int) = (n : Int) := by rw [hnn]
        have hws : IntKind.i64.wrap ((f.2.length : Int) - 1) = (f.2.length : Int) - 1 := by rw [IntKind.wrap_i64]; omega
        by_cases h32 : n < 32
        · have hm := may3 HNO.out hl (.inr (.inr (any_off_at hlt ((congrArg offB HC.out).trans (by unfold offB; rw [HN.out]; simp [h32])))))
          have HMM := Lib.hid hm
          clear hm
          have q1 : (n : Int) < 32 := by omega
          clear hnn
          go_wp2_with fail
          go_ret
          exact ⟨by rw [← HM0.out, HMM.out]; rfl, G1.out⟩
        have q1 : ¬ (n : Int) < 32 := by omega
        by_cases h126 : 126 < n
        · have hm := may3 HNO.out hl (.inr (.inr (any_off_at hlt ((congrArg offB HC.out).trans (by unfold offB; rw [HN.out]; simp [h126])))))
          have HMM := Lib.hid hm
          clear hm
          have q2 : (126 : Int) < (n : Int) := by omega
          clear hnn
          go_wp2_with fail
          go_ret
          exact ⟨by rw [← HM0.out, HMM.out]; rfl, G1.out⟩
        have q2 : ¬ (126 : Int) < (n : Int) := by omega
        have hoff : offB c = false := by unfold offB; rw [hnn]; simp; omega
        have HOF := Lib.hid hoff
        clear hoff
        by_cases hb32 : n = 32
        · have q3 : ((n : Int) == 32) = true := by rw [beq_iff_eq]; omega
          have hcc : c = 32 := UInt8.toNat_inj.1 (by rw [hnn, hb32]; rfl)
          by_cases hk0 : k = 0
          · have hm := may3 HNO.out hl (.inl (head_at hlt (HC.out.trans hcc) hk0))
            have HMM := Lib.hid hm
            clear hm
            have q4 : ((k : Int) == 0) = true := by rw [beq_iff_eq]; omega
            clear hnn hcc hb32 hk0
            go_wp2_with fail
            go_ret
            exact ⟨by rw [← HM0.out, HMM.out]; rfl, G1.out⟩
          have q4 : ((k : Int) == 0) = false := by rw [beq_eq_false_iff_ne]; omega
          by_cases hkl : k + 1 = f.2.length
          · have hm := may3 HNO.out hl (.inr (.inl (last_at hlt (HC.out.trans hcc) hkl)))
            have HMM := Lib.hid hm
            clear hm
            have q5 : ((k : Int) == (f.2.length : Int) - 1) = true := by rw [beq_iff_eq]; omega
            clear hnn hcc hb32
            go_wp2_with fail
            go_ret
            exact ⟨by rw [← HM0.out, HMM.out]; rfl, G1.out⟩
          have q5 : ((k : Int) == (f.2.length : Int) - 1) = false := by rw [beq_eq_false_iff_ne]; omega
          have hO2 := Lib.hid (okAt_succ hO.out hlt HC.out HOF.out fun _ => ⟨hk0, hkl⟩)
          clear hnn hcc hb32
          go_wp2_with fail
          go_round
          case rel => exact ⟨k + 1, by go_num, by omega, hO2⟩
          case measure => simp [intOf]; omega
        · have q3 : ((n : Int) == 32) = false := by rw [beq_eq_false_iff_ne]; omega
          have hO2 := Lib.hid (okAt_succ hO.out hlt HC.out HOF.out fun e => absurd (show n = 32 by rw [← HN.out, e]; rfl) hb32)
          clear hnn
          go_wp2_with fail
          go_round
          case rel => exact ⟨k + 1, by go_num, by omega, hO2⟩
          case measure => simp [intOf]; omega
      · obtain rfl : k = f.2.length := by omega
        have hm := may0 HNO.out hl hO.out
        have HMM := Lib.hid hm
        clear hm
        go_wp2_with fail
        go_ret
        exact ⟨by rw [← HM0.out, HMM.out]; rfl, G1.out⟩
set_option maxRecDepth 100000 in
theorem rReason12 (c : Int) (hc : reasonR c ≠ none) (w : World) :
    Calls Tryz.prog 57 #[.int .i64 c] w fun e w' => e = .returned (.tuple #[.string (bs ((reasonR c).getD [])), .int .i64 0]) ∧ w = w' := by
  obtain ⟨x, hx, rfl⟩ := reason_mem hc
  clear hc
  have hx' : x.1 ∈ codesR.map (·.1) := List.mem_map.2 ⟨x, hx, rfl⟩
  obtain ⟨n, hn⟩ : ∃ n, x.1 = n := ⟨_, rfl⟩
  rw [hn] at hx' ⊢
  clear hx hn
  simp only [codesR, List.map_cons, List.map_nil, List.mem_cons, List.not_mem_nil, or_false] at hx'
  rcases hx' with rfl | rfl | rfl | rfl | rfl | rfl | rfl | rfl | rfl | rfl | rfl | rfl | rfl | rfl | rfl
  all_goals (
    go_enter Tryz.func57, Tryz.ntmps57
    go_wp2_with fail
    go_ret2
    exact ⟨by kernel_rfl, rfl⟩)
/-- a digit cut out of all -/
theorem dig_cut (n : Nat) (h : n < 10) : ((⟨#[48, 49, 50, 51, 52, 53, 54, 55, 56, 57]⟩ : ByteArray).extract n (n + 1)).size = 1 := by
  have : ∀ n : Fin 10, ((⟨#[48, 49, 50, 51, 52, 53, 54, 55, 56, 57]⟩ : ByteArray).extract n.val (n.val + 1)).size = 1 := by decide +kernel
  exact this ⟨n, h⟩
set_option maxRecDepth 100000 in
theorem rDigits12 : ∀ (f n : Nat) (w : World), n < 10 ^ (f + 1) → f ≤ 10 →
    Calls Tryz.prog 58 #[.int .i64 n] w fun e w' => ∃ s : ByteArray, s.size ≤ f + 1 ∧ e = .returned (.string s) ∧ Below w.heap.size w w' := by
  intro f
  induction f with
  | zero =>
    intro n w hn _
    have hn10 : n < 10 := by simpa using hn
    have i0 : (n : Int) < 10 := by omega
    have hw : IntKind.i64.wrap ((n : Int) + 1) = (n : Int) + 1 := by rw [IntKind.wrap_i64]; omega
    have j1 : (0 : Int) ≤ (n : Int) := by omega
    have j2 : (n : Int) ≤ (n : Int) + 1 := by omega
    have j3 : (n : Int) + 1 ≤ 10 := by omega
    have hd := dig_cut n hn10
    obtain ⟨D, hD⟩ : ∃ D, (⟨#[48, 49, 50, 51, 52, 53, 54, 55, 56, 57]⟩ : ByteArray).extract n (n + 1) = D := ⟨_, rfl⟩
    rw [hD] at hd
    go_enter Tryz.func58, Tryz.ntmps58
    go_wp2_with fail
    go_ret
    exact ⟨D, by omega, rfl, Below.refl _ _⟩
  | succ f ih =>
    intro n w hn hf
    by_cases hn10 : n < 10
    · have i0 : (n : Int) < 10 := by omega
      have hw : IntKind.i64.wrap ((n : Int) + 1) = (n : Int) + 1 := by rw [IntKind.wrap_i64]; omega
      have j1 : (0 : Int) ≤ (n : Int) := by omega
      have j2 : (n : Int) ≤ (n : Int) + 1 := by omega
      have j3 : (n : Int) + 1 ≤ 10 := by omega
      have hd := dig_cut n hn10
      obtain ⟨D, hD⟩ : ∃ D, (⟨#[48, 49, 50, 51, 52, 53, 54, 55, 56, 57]⟩ : ByteArray).extract n (n + 1) = D := ⟨_, rfl⟩
      rw [hD] at hd
      clear ih
      go_enter Tryz.func58, Tryz.ntmps58
      go_wp2_with fail
      go_ret
      exact ⟨D, by omega, rfl, Below.refl _ _⟩
    · have i0 : ¬ (n : Int) < 10 := by omega
      have hq : n / 10 < 10 ^ (f + 1) := by
        rw [Nat.pow_succ 10 (f + 1)] at hn
        omega
      have CI := Lib.hid (fun X => ih (n / 10) X hq (by omega))
      obtain ⟨q, hqq⟩ : ∃ q, n / 10 = q := ⟨_, rfl⟩
      obtain ⟨m, hm⟩ : ∃ m, n % 10 = m := ⟨_, rfl⟩
      have hm10 : m < 10 := by omega
      have td : ((n : Int)).tdiv 10 = (q : Int) := by rw [← hqq]; exact (Int.ofNat_tdiv n 10).symm
      have tm : ((n : Int)).tmod 10 = (m : Int) := by rw [← hm]; exact (Int.ofNat_tmod n 10).symm
      rw [hqq] at CI
      have hw : IntKind.i64.wrap ((m : Int) + 1) = (m : Int) + 1 := by rw [IntKind.wrap_i64]; omega
      have hwq : IntKind.i64.wrap (q : Int) = (q : Int) := by
        have h10 : (10 : Nat) ^ (f + 1) ≤ 10 ^ 11 := Nat.pow_le_pow_right (by omega) (by omega)
        rw [IntKind.wrap_i64]; omega
      have j1 : (0 : Int) ≤ (m : Int) := by omega
      have j2 : (m : Int) ≤ (m : Int) + 1 := by omega
      have j3 : (m : Int) + 1 ≤ 10 := by omega
      have hd := dig_cut m hm10
      obtain ⟨D, hD⟩ : ∃ D, (⟨#[48, 49, 50, 51, 52, 53, 54, 55, 56, 57]⟩ : ByteArray).extract m (m + 1) = D := ⟨_, rfl⟩
      rw [hD] at hd
      have HD := Lib.hid hd
      clear ih hq hqq hm hn hd
      go_enter Tryz.func58, Tryz.ntmps58
      go_wp2_with fail
      go_region_held3 (fun _ => True) (trivial) (first | (go_at_call 58; (with_reducible refine (CI.out _).mono ?_); rintro e w2 ⟨s, hs, rfl, g2⟩; have HS := Lib.hid hs; have sz : ¬ 9223372036854775807 < s.size + D.size := (by have := HD.out; omega); clear hs))
      go_wp2_with fail
      go_ret
      exact ⟨s ++ D, by rw [ByteArray.size_append]; have := HD.out; have := HS.out; omega, rfl, ((Below.refl w.heap.size w).drew).trans (g2.mono (Nat.le_refl _))⟩
end

section
open Go.RowKit

theorem dec_step (m : Nat) : Lib.decDigits m = (if m < 10 then [] else Lib.decDigits (m / 10)) ++ [UInt8.ofNat (48 + m % 10)] := by
  rw [Lib.decDigits]
  split
  · rename_i h
    rw [Nat.mod_eq_of_lt h]; rfl
  · rfl
theorem dec_ne42 (m : Nat) : Lib.decDigits m ≠ [] := by rw [dec_step]; simp
set_option maxRecDepth 100000 in
set_option maxHeartbeats 4000000 in
theorem rDec42 (n : Nat) (h1 : 1 ≤ n) (h : n ≤ 9999) (w : World) :
    Calls Tryz.prog 108 #[.int .i64 n] w fun e w' => e = .returned (.string (bs (Lib.decDigits n))) ∧ Below w.heap.size w w' := by
  have hlen := dec_len n h
  go_enter Tryz.func108, Tryz.ntmps108
  go_wp2_with fail
  go_loopw [0, 3] (fun nv s wr => ∃ (m : Nat) (l : List UInt8), nv = .int .i64 m ∧ s = .string (bs l) ∧ m ≤ 9999 ∧ Hid ((m = 0 → l = Lib.decDigits n) ∧ (0 < m → Lib.decDigits n = Lib.decDigits m ++ l)) ∧ Hid (Below w.heap.size w wr)) (fun nv _ _ => (intOf nv).toNat)
  case atStart => exact ⟨n, [], rfl, rfl, h, hide ⟨fun e => by omega, fun _ => by simp⟩, hide (Below.refl _ _)⟩
  case round =>
    obtain ⟨m, l, rfl, rfl, hm, hL, hB⟩ := hrel
    rename World => wr
    by_cases h0 : m = 0
    · have hl := hL.out.1 h0
      have hne : l ≠ [] := by rw [hl]; exact dec_ne42 n
      obtain ⟨m1, m2⟩ := nemp_bs hne
      have HL2 := Lib.hid hl
      clear hl hne hlen hL
      subst h0
      go_wp2_with fail
      go_ret
      exact ⟨by rw [HL2.out]; rfl, hB.out⟩
    · have hll : l.length ≤ 4 := by
        have := congrArg List.length (hL.out.2 (by omega))
        rw [List.length_append] at this
        omega
      obtain ⟨d, hd⟩ : ∃ d, m % 10 = d := ⟨_, rfl⟩
      obtain ⟨q, hq⟩ : ∃ q, m / 10 = q := ⟨_, rfl⟩
      have hd10 : d < 10 := by omega
      have hqm : q < m := by omega
      obtain ⟨c, hc⟩ : ∃ c, UInt8.ofNat (48 + d) = c := ⟨_, rfl⟩
      have hcn : c.toNat = 48 + d := by rw [← hc, UInt8.toNat_ofNat']; omega
      have hst : Lib.decDigits n = (if m < 10 then [] else Lib.decDigits q) ++ (c :: l) := by
        rw [hL.out.2 (by omega), dec_step m, hd, hq, hc]; simp
      have hnew : (q = 0 → (c :: l) = Lib.decDigits n) ∧ (0 < q → Lib.decDigits n = Lib.decDigits q ++ (c :: l)) := by
        by_cases hm10 : m < 10
        · rw [if_pos hm10] at hst
          exact ⟨fun _ => by rw [hst]; rfl, fun hq0 => by omega⟩
        · rw [if_neg hm10] at hst
          exact ⟨fun hq0 => by omega, fun _ => hst⟩
      have tm : ((m : Int)).tmod 10 = (d : Int) := by rw [← hd]; exact (Int.ofNat_tmod m 10).symm
      have td : ((m : Int)).tdiv 10 = (q : Int) := by rw [← hq]; exact (Int.ofNat_tdiv m 10).symm
      have wq : IntKind.i64.wrap (q : Int) = (q : Int) := by rw [IntKind.wrap_i64]; omega
      have w48 : IntKind.i64.wrap (48 + (d : Int)) = 48 + (d : Int) := by rw [IntKind.wrap_i64]; omega
      have w8 : IntKind.u8.wrap (48 + (d : Int)) = 48 + (d : Int) := by rw [IntKind.wrap_u8]; omega
      have hcI : (48 + (d : Int)) = (c.toNat : Int) := by omega
      have hcv : (convert 66 9 (.slice (some ⟨wr.heap.size, 0, none⟩) 1 1)).run Tryz.prog (wr.alloc (.cells #[.int .u8 (48 + (d : Int))] 5)) = .ok (.string (bs [c])) (wr.alloc (.cells #[.int .u8 (48 + (d : Int))] 5)) := run_convert_bytes_back (P := Tryz.prog) (wr.alloc (.cells #[.int .u8 (48 + (d : Int))] 5)) 66 9 5 ⟨wr.heap.size, 0, none⟩ 1 [c] Tryz.underlying66 Tryz.underlying5 Tryz.underlying9 (fun j hj => by
        have : j = 0 := by simpa using hj
        subst this
        rw [show (Addr.add ⟨wr.heap.size, 0, none⟩ 0) = ⟨wr.heap.size, 0, none⟩ by rfl, World.cell?_alloc_new, hcI]; rfl)
      have i0 : (0 : Int) < (m : Int) := by omega
      have zl := bs_size l
      have z1 : (bs [c]).size = 1 := rfl
      have s1 : ¬ 9223372036854775807 < 1 + l.length := by omega
      have s2 : ¬ 9223372036854775806 < l.length := by omega
      have HN := Lib.hid hnew
      have HB2 := Lib.hid (hB.out.alloc hB.out.size (.cells #[.int .u8 (48 + (d : Int))] 5))
      have hcc : (⟨[c].toArray⟩ : ByteArray) = bs [c] := rfl
      clear hnew hst hL h0 hc hd hq hcI hcn hlen
      go_wp2_with fail
      go_roundw
      case rel => exact ⟨q, c :: l, rfl, by rw [show c :: l = [c] ++ l from rfl, ← bs_app], by omega, HN, HB2⟩
      case measure => simp [intOf]; omega
theorem page_codes : ∀ c ∈ ([200, 301, 302, 303, 307, 308, 400, 403, 404, 405, 410, 413, 414, 431, 500] : List Nat), True := fun _ _ => trivial
set_option maxRecDepth 100000 in
theorem rPage42 (c : Int) (hc : reasonR c ≠ none) (w : World) :
    Calls Tryz.prog 79 #[.int .i64 c] w fun e w' => e = .returned (.tuple #[.string (bs (pageT c).1), .int .i64 0]) ∧ Below w.heap.size w w' := by
  obtain ⟨y, hy, hyc⟩ := reason_mem hc
  obtain ⟨i, hi, e1, e2⟩ := codes_at hy
  have hle := codeN_le i hi
  have hge : 1 ≤ codeN i := by
    have : ∀ j : Fin 15, 1 ≤ codeN j.val := by decide +kernel
    exact this ⟨i, hi⟩
  have hsl := codeS_len i hi
  have hra := reason_at ⟨i, hi⟩
  simp only at hra
  obtain ⟨m, hm⟩ : ∃ m, codeN i = m := ⟨_, rfl⟩
  rw [hm] at hle hge hra
  have hcm : c = (m : Int) := by rw [← hyc, ← e1, hm]
  subst hcm
  obtain ⟨x, hx⟩ : ∃ x, codeS i = x := ⟨_, rfl⟩
  rw [hx] at hsl hra
  have hp : (pageT (m : Int)).1 = Lib.decDigits m ++ [32] ++ x ++ [10] := by rw [page_some hra]; rfl
  rw [hp]
  have CR := Lib.hid (fun X => rReason12 (m : Int) hc X)
  rw [hra] at CR
  have CD := Lib.hid (fun X => rDec42 m hge hle X)
  have hdl := dec_len m hle
  obtain ⟨D, hD⟩ : ∃ D, bs (Lib.decDigits m) = D := ⟨_, rfl⟩
  obtain ⟨R, hR⟩ : ∃ R, bs x = R := ⟨_, rfl⟩
  have hDz : D.size ≤ 100 := by rw [← hD, bs_size]; omega
  have hRz : R.size ≤ 100 := by rw [← hR, bs_size]; omega
  have hcat : D ++ ⟨#[32]⟩ ++ R ++ ⟨#[10]⟩ = bs (Lib.decDigits m ++ [32] ++ x ++ [10]) := by
    rw [← hD, ← hR, show (⟨#[32]⟩ : ByteArray) = bs [32] from rfl, show (⟨#[10]⟩ : ByteArray) = bs [10] from rfl, bs_app, bs_app, bs_app]
  have CR2 := Lib.hid (show ∀ X, Calls Tryz.prog 57 #[.int .i64 (m : Int)] X fun e w' => e = .returned (.tuple #[.string R, .int .i64 0]) ∧ X = w' from fun X => by rw [← hR]; exact CR.out X)
  rw [hD] at CD
  have HC := Lib.hid hcat
  have s1 : ¬ 9223372036854775806 < D.size := by omega
  have s2 : ¬ 9223372036854775807 < D.size + 1 + R.size := by omega
  have s3 : ¬ 9223372036854775806 < D.size + 1 + R.size := by omega
  clear CR hcat hD hR hra hp hy hyc hi e1 e2 hm hx hc hdl hsl
  go_enter Tryz.func79, Tryz.ntmps79
  go_wp2_with fail
  (with_reducible refine (CR2.out _).mono ?_); rintro e w1 ⟨rfl, rfl⟩
  go_wp2_with fail
  (with_reducible refine (CD.out _).mono ?_); rintro e w2 ⟨rfl, g2⟩
  go_wp2_with fail
  go_ret2
  exact ⟨by rw [← HC.out]; rfl, g2⟩
/-- the fields of a response -/
def respF (loc : List UInt8) : List Fld := if loc = [] then [textF] else [(locN, loc), textF]
def RespPost (C : Int) (loc body : List UInt8) (head close : Bool) (w : World) (e : Ending) (w' : World) : Prop :=
  ∃ A c, e = .returned (rspV ⟨C, respF loc, body, close, head⟩ A (respF loc).length c) ∧ Reads w' w'.heap.size 2 A (respF loc).length (fldsC (respF loc)) ∧ Below w.heap.size w w'
set_option maxRecDepth 100000 in
set_option maxHeartbeats 4000000 in
theorem rResp42 (C : Int) (loc body : List UInt8) (head close : Bool) (w : World) :
    Calls Tryz.prog 50 #[.int .i64 C, .string (bs loc), .string (bs body), .bool head, .bool close] w (RespPost C loc body head close w) := by
  have b0 : Below w.heap.size w (w.alloc (.cells #[.int .i64 0, .slice none 0 0, .string ⟨#[]⟩, .bool false, .bool false] 24)) := (Below.refl _ _).alloc (Nat.le_refl _) _
  have k0 := Blk.new w 24 #[.int .i64 0, .slice none 0 0, .string ⟨#[]⟩, .bool false, .bool false]
  have s0 : (w.alloc (.cells #[.int .i64 0, .slice none 0 0, .string ⟨#[]⟩, .bool false, .bool false] 24)).heap.size = w.heap.size + 1 := by simp
  obtain ⟨W, hW⟩ : ∃ W, w.alloc (.cells #[.int .i64 0, .slice none 0 0, .string ⟨#[]⟩, .bool false, .bool false] 24) = W := ⟨_, rfl⟩
  rw [hW] at b0 k0 s0
  by_cases hl : loc = []
  · have hF : respF loc = [textF] := if_pos hl
    obtain ⟨m1, m2⟩ := emp_bs hl
    unfold RespPost rspV
    rw [hF]
    obtain ⟨v', w5, hrun, hown, hbel, hgr⟩ := app_fldR (base := W.heap.size) (W := W) (v := .slice none 0 0) (xs := []) (World.ownsRow_nil _ _ _ _) (Nat.le_refl _) (by decide) textF
    obtain ⟨A, c, rfl⟩ := own_slice hown
    have k5 := k0.grown hgr (by simp [Value.ownBlock])
    have f0 := k5.frozen 0
    have f1 := k5.frozen 1
    have f2 := k5.frozen 2
    have f3 := k5.frozen 3
    have f4 := k5.frozen 4
    have q0 : w5.cell? ⟨w.heap.size, 0, none⟩ = some (.int .i64 0) := k5.cell 0
    have q1 : w5.cell? ⟨w.heap.size, 1, none⟩ = some (.slice none 0 0) := k5.cell 1
    have q2 : w5.cell? ⟨w.heap.size, 2, none⟩ = some (.string ⟨#[]⟩) := k5.cell 2
    have q3 : w5.cell? ⟨w.heap.size, 3, none⟩ = some (.bool false) := k5.cell 3
    have q4 : w5.cell? ⟨w.heap.size, 4, none⟩ = some (.bool false) := k5.cell 4
    have KR := Lib.hid (blk5H k5 (.int .i64 C) (.slice A 1 c) (.string (bs body)) (.bool close) (.bool head))
    have FIN := Lib.hid (And.intro (Reads.of_own (own5H hown (g := w.heap.size) (by omega) (.int .i64 C) (.slice A 1 c) (.string (bs body)) (.bool close) (.bool head))) (bel5H (b0.trans (hbel.mono (by omega))) (Nat.le_refl _) (.int .i64 C) (.slice A 1 c) (.string (bs body)) (.bool close) (.bool head)))
    have HRUN := Lib.hid (show (Builtin.append_ #[22, 22] 22 #[.slice none 0 0, .slice (some ⟨W.heap.size, 0, none⟩) 1 1]).run Tryz.prog (W.alloc (.cells #[.string ⟨#[67, 111, 110, 116, 101, 110, 116, 45, 84, 121, 112, 101]⟩, .string ⟨#[116, 101, 120, 116, 47, 112, 108, 97, 105, 110]⟩] 57)) = .ok (.slice A 1 c) w5 from hrun)
    clear hl hF k5 hrun hown hbel hgr b0 k0
    subst hW
    rw [s0] at HRUN
    clear s0
    go_enter Tryz.func50, Tryz.ntmps50
    go_wp2_with (at_builtin; refine wpList_append_run HRUN.out rfl _ _ rfl rfl rfl rfl ?_)
    refine bodyPost_ret (results_cellH (p := 10) (ty := 24) (by kernel_rfl) _ _ w.heap.size _ rfl (ld5H KR.out rfl)) rfl ?_
    exact ⟨A, c, rfl, FIN.out.1, FIN.out.2⟩
  · have hF : respF loc = [(locN, loc), textF] := if_neg hl
    obtain ⟨m1, m2⟩ := nemp_bs hl
    unfold RespPost rspV
    rw [hF]
    obtain ⟨v1, w4, hrun1, hown1, hbel1, hgr1⟩ := app_fldR (base := W.heap.size) (W := W) (v := .slice none 0 0) (xs := []) (World.ownsRow_nil _ _ _ _) (Nat.le_refl _) (by decide) (locN, loc)
    obtain ⟨A1, c1, rfl⟩ := own_slice hown1
    have k4 := k0.grown hgr1 (by simp [Value.ownBlock])
    obtain ⟨v', w5, hrun, hown, hbel, hgr⟩ := app_fldR (base := W.heap.size) (W := w4) (v := .slice A1 1 c1) (xs := [(locN, loc)]) hown1 hbel1.size (by simp) textF
    obtain ⟨A, c, rfl⟩ := own_slice hown
    have k5 := k4.grown hgr (fun e => own_blk_ne (e := 57) hown1 k4 (by decide) e.symm)
    have f0 := k5.frozen 0
    have f1 := k5.frozen 1
    have f2 := k5.frozen 2
    have f3 := k5.frozen 3
    have f4 := k5.frozen 4
    have q0 : w5.cell? ⟨w.heap.size, 0, none⟩ = some (.int .i64 0) := k5.cell 0
    have q1 : w5.cell? ⟨w.heap.size, 1, none⟩ = some (.slice none 0 0) := k5.cell 1
    have q2 : w5.cell? ⟨w.heap.size, 2, none⟩ = some (.string ⟨#[]⟩) := k5.cell 2
    have q3 : w5.cell? ⟨w.heap.size, 3, none⟩ = some (.bool false) := k5.cell 3
    have q4 : w5.cell? ⟨w.heap.size, 4, none⟩ = some (.bool false) := k5.cell 4
    have KR := Lib.hid (blk5H k5 (.int .i64 C) (.slice A 2 c) (.string (bs body)) (.bool close) (.bool head))
    have FIN := Lib.hid (And.intro (Reads.of_own (own5H hown (g := w.heap.size) (by omega) (.int .i64 C) (.slice A 2 c) (.string (bs body)) (.bool close) (.bool head))) (bel5H (b0.trans ((hbel1.trans hbel).mono (by omega))) (Nat.le_refl _) (.int .i64 C) (.slice A 2 c) (.string (bs body)) (.bool close) (.bool head)))
    have HRUN1 := Lib.hid (show (Builtin.append_ #[22, 22] 22 #[.slice none 0 0, .slice (some ⟨W.heap.size, 0, none⟩) 1 1]).run Tryz.prog (W.alloc (.cells #[.string ⟨#[76, 111, 99, 97, 116, 105, 111, 110]⟩, .string (bs loc)] 57)) = .ok (.slice A1 1 c1) w4 from hrun1)
    have HRUN := Lib.hid (show (Builtin.append_ #[22, 22] 22 #[.slice A1 1 c1, .slice (some ⟨w4.heap.size, 0, none⟩) 1 1]).run Tryz.prog (w4.alloc (.cells #[.string ⟨#[67, 111, 110, 116, 101, 110, 116, 45, 84, 121, 112, 101]⟩, .string ⟨#[116, 101, 120, 116, 47, 112, 108, 97, 105, 110]⟩] 57)) = .ok (.slice A 2 c) w5 from hrun)
    clear hl hF k5 k4 hrun hown hbel hgr hrun1 hown1 hbel1 hgr1 b0 k0
    subst hW
    rw [s0] at HRUN1
    clear s0
    go_enter Tryz.func50, Tryz.ntmps50
    go_wp2_with (first | (at_builtin; refine wpList_append_run HRUN1.out rfl _ _ rfl rfl rfl rfl ?_) | (at_builtin; refine wpList_append_run HRUN.out rfl _ _ rfl rfl rfl rfl ?_))
    refine bodyPost_ret (results_cellH (p := 10) (ty := 24) (by kernel_rfl) _ _ w.heap.size _ rfl (ld5H KR.out rfl)) rfl ?_
    exact ⟨A, c, rfl, FIN.out.1, FIN.out.2⟩
end

section
open Go.RowKit

def codes5 : List Int := [301, 302, 303, 307, 308]
def movedK (c : Int) (k : Nat) : Bool := (codes5.take k).any (fun x => x == c)
theorem movedK_succ (c : Int) (k : Nat) (h : k < codes5.length) : movedK c (k + 1) = (movedK c k || (codes5[k] == c)) := by
  unfold movedK
  rw [List.take_succ_eq_append_getElem h, List.any_append]; simp
theorem movedK_all (c : Int) : movedK c 5 = movedC c := by
  unfold movedK movedC codes5
  simp only [List.take, List.any]
  have e : ∀ a b : Int, (a == b) = (b == a) := fun a b => by
    by_cases h : a = b
    · subst h; rfl
    · rw [beq_eq_false_iff_ne.2 h, beq_eq_false_iff_ne.2 (Ne.symm h)]
  rw [e 301, e 302, e 303, e 307, e 308]
  simp [Bool.or_assoc]
set_option maxRecDepth 100000 in
set_option maxHeartbeats 8000000 in
theorem rCode42 (f : FoundP) (r : ReqP) (o : OutP) (S N V FA : Option Addr) (cs cn cv fn fc : Nat) (host : ByteArray) (w : World) (hf : FndOk f) :
    Calls Tryz.prog 16 #[reqV r host FA fn fc, outV o, fndV f S N V cs cn cv] w fun e w' => e = .returned (.tuple #[.int .i64 (codeT r.method o.kind o.code f).1, .int .i64 ((codeT r.method o.kind o.code f).2 : Nat)]) ∧ Below w.heap.size w w' := by
  have cK := fun X => rCheckF f S N V cs cn cv X hf
  obtain ⟨p1, p2, hpp⟩ : ∃ p1 p2, codeT r.method o.kind o.code f = (p1, p2) := ⟨_, _, rfl⟩
  rw [hpp]
  have HP := Lib.hid hpp
  unfold reqV outV fndV at *
  have BW := Lib.hid (show Below w.heap.size w ((((w.alloc (.cells #[.string (bs r.method), .string (bs r.path), .string (bs r.query), .string host, .slice FA fn fc, .string (bs r.body)] 33)).alloc (.cells #[.int .i64 o.kind, .string o.sp, .string o.sq, .int .i64 o.code, .string (bs o.loc), .int .i64 o.why] 37)).alloc (.cells #[.bool f.ok, .slice S f.segs.length cs, .int .i64 f.kind, .string (bs f.text), .slice N f.names.length cn, .slice V f.vals.length cv, .string (bs f.rest)] 42)).alloc (.cells #[.int .i64 301, .int .i64 302, .int .i64 303, .int .i64 307, .int .i64 308] 3)) from ((((Below.refl _ _).alloc (Nat.le_refl _) _).alloc (by simp) _).alloc (by simp; omega) _).alloc (by simp; omega) _)
  have KR := Lib.hid (show Blk ((((w.alloc (.cells #[.string (bs r.method), .string (bs r.path), .string (bs r.query), .string host, .slice FA fn fc, .string (bs r.body)] 33)).alloc (.cells #[.int .i64 o.kind, .string o.sp, .string o.sq, .int .i64 o.code, .string (bs o.loc), .int .i64 o.why] 37)).alloc (.cells #[.bool f.ok, .slice S f.segs.length cs, .int .i64 f.kind, .string (bs f.text), .slice N f.names.length cn, .slice V f.vals.length cv, .string (bs f.rest)] 42)).alloc (.cells #[.int .i64 301, .int .i64 302, .int .i64 303, .int .i64 307, .int .i64 308] 3)) (w.heap.size) 33 #[.string (bs r.method), .string (bs r.path), .string (bs r.query), .string host, .slice FA fn fc, .string (bs r.body)] from by
    have := (((Blk.new w 33 #[.string (bs r.method), .string (bs r.path), .string (bs r.query), .string host, .slice FA fn fc, .string (bs r.body)]).alloc (.cells #[.int .i64 o.kind, .string o.sp, .string o.sq, .int .i64 o.code, .string (bs o.loc), .int .i64 o.why] 37)).alloc (.cells #[.bool f.ok, .slice S f.segs.length cs, .int .i64 f.kind, .string (bs f.text), .slice N f.names.length cn, .slice V f.vals.length cv, .string (bs f.rest)] 42)).alloc (.cells #[.int .i64 301, .int .i64 302, .int .i64 303, .int .i64 307, .int .i64 308] 3)
    exact this)
  have KO := Lib.hid (show Blk ((((w.alloc (.cells #[.string (bs r.method), .string (bs r.path), .string (bs r.query), .string host, .slice FA fn fc, .string (bs r.body)] 33)).alloc (.cells #[.int .i64 o.kind, .string o.sp, .string o.sq, .int .i64 o.code, .string (bs o.loc), .int .i64 o.why] 37)).alloc (.cells #[.bool f.ok, .slice S f.segs.length cs, .int .i64 f.kind, .string (bs f.text), .slice N f.names.length cn, .slice V f.vals.length cv, .string (bs f.rest)] 42)).alloc (.cells #[.int .i64 301, .int .i64 302, .int .i64 303, .int .i64 307, .int .i64 308] 3)) (w.heap.size + 1) 37 #[.int .i64 o.kind, .string o.sp, .string o.sq, .int .i64 o.code, .string (bs o.loc), .int .i64 o.why] from by
    have := ((Blk.new (w.alloc (.cells #[.string (bs r.method), .string (bs r.path), .string (bs r.query), .string host, .slice FA fn fc, .string (bs r.body)] 33)) 37 #[.int .i64 o.kind, .string o.sp, .string o.sq, .int .i64 o.code, .string (bs o.loc), .int .i64 o.why]).alloc (.cells #[.bool f.ok, .slice S f.segs.length cs, .int .i64 f.kind, .string (bs f.text), .slice N f.names.length cn, .slice V f.vals.length cv, .string (bs f.rest)] 42)).alloc (.cells #[.int .i64 301, .int .i64 302, .int .i64 303, .int .i64 307, .int .i64 308] 3)
    rw [show (w.alloc (.cells #[.string (bs r.method), .string (bs r.path), .string (bs r.query), .string host, .slice FA fn fc, .string (bs r.body)] 33)).heap.size = w.heap.size + 1 by simp] at this
    exact this)
  have KF := Lib.hid (show Blk ((((w.alloc (.cells #[.string (bs r.method), .string (bs r.path), .string (bs r.query), .string host, .slice FA fn fc, .string (bs r.body)] 33)).alloc (.cells #[.int .i64 o.kind, .string o.sp, .string o.sq, .int .i64 o.code, .string (bs o.loc), .int .i64 o.why] 37)).alloc (.cells #[.bool f.ok, .slice S f.segs.length cs, .int .i64 f.kind, .string (bs f.text), .slice N f.names.length cn, .slice V f.vals.length cv, .string (bs f.rest)] 42)).alloc (.cells #[.int .i64 301, .int .i64 302, .int .i64 303, .int .i64 307, .int .i64 308] 3)) (w.heap.size + 1 + 1) 42 #[.bool f.ok, .slice S f.segs.length cs, .int .i64 f.kind, .string (bs f.text), .slice N f.names.length cn, .slice V f.vals.length cv, .string (bs f.rest)] from by
    have := (Blk.new ((w.alloc (.cells #[.string (bs r.method), .string (bs r.path), .string (bs r.query), .string host, .slice FA fn fc, .string (bs r.body)] 33)).alloc (.cells #[.int .i64 o.kind, .string o.sp, .string o.sq, .int .i64 o.code, .string (bs o.loc), .int .i64 o.why] 37)) 42 #[.bool f.ok, .slice S f.segs.length cs, .int .i64 f.kind, .string (bs f.text), .slice N f.names.length cn, .slice V f.vals.length cv, .string (bs f.rest)]).alloc (.cells #[.int .i64 301, .int .i64 302, .int .i64 303, .int .i64 307, .int .i64 308] 3)
    rw [show ((w.alloc (.cells #[.string (bs r.method), .string (bs r.path), .string (bs r.query), .string host, .slice FA fn fc, .string (bs r.body)] 33)).alloc (.cells #[.int .i64 o.kind, .string o.sp, .string o.sq, .int .i64 o.code, .string (bs o.loc), .int .i64 o.why] 37)).heap.size = w.heap.size + 1 + 1 by simp] at this
    exact this)
  have KC := Lib.hid (show Blk ((((w.alloc (.cells #[.string (bs r.method), .string (bs r.path), .string (bs r.query), .string host, .slice FA fn fc, .string (bs r.body)] 33)).alloc (.cells #[.int .i64 o.kind, .string o.sp, .string o.sq, .int .i64 o.code, .string (bs o.loc), .int .i64 o.why] 37)).alloc (.cells #[.bool f.ok, .slice S f.segs.length cs, .int .i64 f.kind, .string (bs f.text), .slice N f.names.length cn, .slice V f.vals.length cv, .string (bs f.rest)] 42)).alloc (.cells #[.int .i64 301, .int .i64 302, .int .i64 303, .int .i64 307, .int .i64 308] 3)) (w.heap.size + 1 + 1 + 1) 3 #[.int .i64 301, .int .i64 302, .int .i64 303, .int .i64 307, .int .i64 308] from by
    have := Blk.new (((w.alloc (.cells #[.string (bs r.method), .string (bs r.path), .string (bs r.query), .string host, .slice FA fn fc, .string (bs r.body)] 33)).alloc (.cells #[.int .i64 o.kind, .string o.sp, .string o.sq, .int .i64 o.code, .string (bs o.loc), .int .i64 o.why] 37)).alloc (.cells #[.bool f.ok, .slice S f.segs.length cs, .int .i64 f.kind, .string (bs f.text), .slice N f.names.length cn, .slice V f.vals.length cv, .string (bs f.rest)] 42)) 3 #[.int .i64 301, .int .i64 302, .int .i64 303, .int .i64 307, .int .i64 308]
    rw [show (((w.alloc (.cells #[.string (bs r.method), .string (bs r.path), .string (bs r.query), .string host, .slice FA fn fc, .string (bs r.body)] 33)).alloc (.cells #[.int .i64 o.kind, .string o.sp, .string o.sq, .int .i64 o.code, .string (bs o.loc), .int .i64 o.why] 37)).alloc (.cells #[.bool f.ok, .slice S f.segs.length cs, .int .i64 f.kind, .string (bs f.text), .slice N f.names.length cn, .slice V f.vals.length cv, .string (bs f.rest)] 42)).heap.size = w.heap.size + 1 + 1 + 1 by simp] at this
    exact this)
  have CK := Lib.hid cK
  clear hpp cK hf
  go_enter Tryz.func16, Tryz.ntmps16
  go_wp2_with fail
  generalize ((((w.alloc (.cells #[.string (bs r.method), .string (bs r.path), .string (bs r.query), .string host, .slice FA fn fc, .string (bs r.body)] 33)).alloc (.cells #[.int .i64 o.kind, .string o.sp, .string o.sq, .int .i64 o.code, .string (bs o.loc), .int .i64 o.why] 37)).alloc (.cells #[.bool f.ok, .slice S f.segs.length cs, .int .i64 f.kind, .string (bs f.text), .slice N f.names.length cn, .slice V f.vals.length cv, .string (bs f.rest)] 42)).alloc (.cells #[.int .i64 301, .int .i64 302, .int .i64 303, .int .i64 307, .int .i64 308] 3)) = W at KR KO KF KC BW ⊢
  go_loopw [9, 10] (fun kn i wr => ∃ k : Nat, i = .int .i64 k ∧ k ≤ 5 ∧ kn = .bool (movedK o.code k) ∧ Hid (Below W.heap.size W wr)) (fun _ i _ => 5 - (intOf i).toNat)
  case atStart => exact ⟨0, rfl, by omega, rfl, hide (Below.refl _ _)⟩
  case round =>
    obtain ⟨k, rfl, hk, rfl, hB⟩ := hrel
    rename World => wr
    have kR := KR.out.below hB.out KR.out.lt
    have kO := KO.out.below hB.out KO.out.lt
    have kF := KF.out.below hB.out KF.out.lt
    have kC := KC.out.below hB.out KC.out.lt
    have o2 : wr.cell? ⟨w.heap.size + 1, 0, none⟩ = some (.int .i64 o.kind) := kO.cell 0
    have o3 : wr.cell? ⟨w.heap.size + 1, 3, none⟩ = some (.int .i64 o.code) := kO.cell 3
    by_cases hlt : k < 5
    · have hsu := movedK_succ o.code k hlt
      obtain ⟨ck, hck, hcc⟩ : ∃ ck : Int, codes5[k]'hlt = ck ∧ wr.cell? ⟨w.heap.size + 1 + 1 + 1, k, none⟩ = some (.int .i64 ck) := ⟨_, rfl, (kC.cell k).trans (by
        have : k = 0 ∨ k = 1 ∨ k = 2 ∨ k = 3 ∨ k = 4 := by omega
        rcases this with rfl | rfl | rfl | rfl | rfl <;> rfl)⟩
      rw [hck] at hsu
      have HSU := Lib.hid hsu
      have HB2 := Lib.hid (fun n => below_drewN hB.out n)
      have i0 : (0 : Int) ≤ (k : Int) := by omega
      have i1 : (k : Int) < 5 := by omega
      clear hsu hck kR kO kF kC
      cases hm : movedK o.code k with
      | true =>
        rw [hm] at HSU
        clear hm
        go_wp2_with fail
        go_quiet (fail)
        go_wp2_with fail
        go_roundw
        case rel => exact ⟨k + 1, by go_num, by omega, by rw [HSU.out]; rfl, hide (HB2.out _)⟩
        case measure => simp [intOf]; omega
      | false =>
        rw [hm] at HSU
        clear hm
        go_wp2_with fail
        go_quiet (fail)
        go_wp2_with fail
        go_roundw
        case rel => exact ⟨k + 1, by go_num, by omega, by rw [HSU.out]; rfl, hide (HB2.out _)⟩
        case measure => simp [intOf]; omega
    · obtain rfl : k = 5 := by omega
      rw [movedK_all]
      obtain ⟨K, hK⟩ : ∃ K, o.kind = K := ⟨_, rfl⟩
      obtain ⟨C, hC⟩ : ∃ C, o.code = C := ⟨_, rfl⟩
      obtain ⟨mv, hmv⟩ : ∃ mv, movedC C = mv := ⟨_, rfl⟩
      obtain ⟨E, hE⟩ : ∃ E, checkF f = E := ⟨_, rfl⟩
      have r0 : wr.cell? ⟨w.heap.size, 0, none⟩ = some (.string (bs r.method)) := kR.cell 0
      have f0 : wr.cell? ⟨w.heap.size + 1 + 1, 0, none⟩ = some (.bool f.ok) := kF.cell 0
      have f1 : wr.cell? ⟨w.heap.size + 1 + 1, 1, none⟩ = some (.slice S f.segs.length cs) := kF.cell 1
      have f2 : wr.cell? ⟨w.heap.size + 1 + 1, 2, none⟩ = some (.int .i64 f.kind) := kF.cell 2
      have f3 : wr.cell? ⟨w.heap.size + 1 + 1, 3, none⟩ = some (.string (bs f.text)) := kF.cell 3
      have f4 : wr.cell? ⟨w.heap.size + 1 + 1, 4, none⟩ = some (.slice N f.names.length cn) := kF.cell 4
      have f5 : wr.cell? ⟨w.heap.size + 1 + 1, 5, none⟩ = some (.slice V f.vals.length cv) := kF.cell 5
      have f6 : wr.cell? ⟨w.heap.size + 1 + 1, 6, none⟩ = some (.string (bs f.rest)) := kF.cell 6
      have CK1 := Lib.hid (CK.out wr)
      rw [hE] at CK1
      have hp := HP.out
      unfold codeT at hp
      rw [hK, hC, hE, hmv] at hp
      rw [hC, hmv]
      rw [hK, hC] at kO
      rw [hK] at o2
      rw [hC] at o3
      have HKR := Lib.hid kR
      have HKO := Lib.hid kO
      have HKF := Lib.hid kF
      have GB := Lib.hid (BW.out.trans (hB.out.mono BW.out.size))
      have HE := Lib.hid hE
      clear kR kO kF kC hK hC hmv hE CK HP
      by_cases h1 : K < 1
      · rw [if_pos (.inl h1)] at hp
        obtain ⟨rfl, rfl⟩ := Prod.mk.inj hp
        go_wp2_with fail
        go_ret2
        exact ⟨rfl, GB.out⟩
      by_cases h5 : 5 < K
      · rw [if_pos (.inr h5)] at hp
        obtain ⟨rfl, rfl⟩ := Prod.mk.inj hp
        go_wp2_with fail
        go_ret2
        exact ⟨rfl, GB.out⟩
      rw [if_neg (show ¬ (K < 1 ∨ 5 < K) by omega)] at hp
      by_cases hbad : K = 2 ∧ mv = false
      · obtain ⟨hK2, rfl⟩ := hbad
        subst hK2
        rw [if_pos ⟨rfl, rfl⟩] at hp
        obtain ⟨rfl, rfl⟩ := Prod.mk.inj hp
        clear h1 h5
        go_wp2_with fail
        go_ret2
        exact ⟨rfl, GB.out⟩
      rw [if_neg hbad] at hp
      have hk : (K = 2 ∧ mv = true) ∨ K = 1 ∨ K = 3 ∨ K = 4 ∨ K = 5 := by
        cases mv with
        | true =>
          by_cases hk2 : K = 2
          · exact .inl ⟨hk2, rfl⟩
          · exact .inr (by omega)
        | false =>
          have : K ≠ 2 := fun e => hbad ⟨e, rfl⟩
          exact .inr (by omega)
      clear hbad h1 h5
      by_cases hE0 : E = 0
      · rw [if_neg (fun h => h hE0)] at hp
        subst hE0
        rcases hk with ⟨rfl, rfl⟩ | rfl | rfl | rfl | rfl
        · rw [if_pos rfl] at hp
          obtain ⟨rfl, rfl⟩ := Prod.mk.inj hp
          go_wp2_with fail
          (with_reducible refine (CK1.out).mono ?_); rintro e w2 ⟨rfl, g2⟩
          have kO2 := HKO.out.below g2 HKO.out.lt
          have x0 : w2.cell? ⟨w.heap.size + 1, 0, none⟩ = some (.int .i64 2) := kO2.cell 0
          have x3 : w2.cell? ⟨w.heap.size + 1, 3, none⟩ = some (.int .i64 C) := kO2.cell 3
          clear kO2
          go_wp2_with fail
          go_ret2
          exact ⟨rfl, GB.out.trans (g2.mono GB.out.size)⟩
        · rw [if_neg (by decide), if_neg (by decide), if_neg (by decide), if_neg (by decide)] at hp
          cases ho : f.ok with
          | false =>
            rw [if_pos ho] at hp
            have HO := Lib.hid ho
            clear ho
            obtain ⟨rfl, rfl⟩ := Prod.mk.inj hp
            go_wp2_with fail
            (with_reducible refine (CK1.out).mono ?_); rintro e w2 ⟨rfl, g2⟩
            have kO2 := HKO.out.below g2 HKO.out.lt
            have x0 : w2.cell? ⟨w.heap.size + 1, 0, none⟩ = some (.int .i64 1) := kO2.cell 0
            have y0 : w2.cell? ⟨w.heap.size + 1 + 1, 0, none⟩ = some (.bool false) := HO.out ▸ (HKF.out.below g2 HKF.out.lt).cell 0
            clear kO2
            go_wp2_with fail
            go_ret2
            exact ⟨rfl, GB.out.trans (g2.mono GB.out.size)⟩
          | true =>
            rw [if_neg (by simp [ho])] at hp
            have HO := Lib.hid ho
            clear ho
            by_cases g1 : r.method = [71, 69, 84]
            · have hkm : knownM r.method = true := by unfold knownM; simp [g1]
              rw [if_neg (by simp [hkm])] at hp
              obtain ⟨rfl, rfl⟩ := Prod.mk.inj hp
              have m1 := lit_t g1
              clear g1 hkm
              go_wp2_with fail
              (with_reducible refine (CK1.out).mono ?_); rintro e w2 ⟨rfl, g2⟩
              have kO2 := HKO.out.below g2 HKO.out.lt
              have x0 : w2.cell? ⟨w.heap.size + 1, 0, none⟩ = some (.int .i64 1) := kO2.cell 0
              have y0 : w2.cell? ⟨w.heap.size + 1 + 1, 0, none⟩ = some (.bool true) := HO.out ▸ (HKF.out.below g2 HKF.out.lt).cell 0
              have z0 : w2.cell? ⟨w.heap.size, 0, none⟩ = some (.string (bs r.method)) := (HKR.out.below g2 HKR.out.lt).cell 0
              clear kO2
              go_wp2_with fail
              go_ret2
              exact ⟨rfl, GB.out.trans (g2.mono GB.out.size)⟩
            · have m1 := lit_f g1
              by_cases g3 : r.method = [72, 69, 65, 68]
              · have hkm : knownM r.method = true := by unfold knownM; simp [g3]
                rw [if_neg (by simp [hkm])] at hp
                obtain ⟨rfl, rfl⟩ := Prod.mk.inj hp
                have m2 := lit_t g3
                clear g1 g3 hkm
                go_wp2_with fail
                (with_reducible refine (CK1.out).mono ?_); rintro e w2 ⟨rfl, g2⟩
                have kO2 := HKO.out.below g2 HKO.out.lt
                have x0 : w2.cell? ⟨w.heap.size + 1, 0, none⟩ = some (.int .i64 1) := kO2.cell 0
                have y0 : w2.cell? ⟨w.heap.size + 1 + 1, 0, none⟩ = some (.bool true) := HO.out ▸ (HKF.out.below g2 HKF.out.lt).cell 0
                have z0 : w2.cell? ⟨w.heap.size, 0, none⟩ = some (.string (bs r.method)) := (HKR.out.below g2 HKR.out.lt).cell 0
                clear kO2
                go_wp2_with fail
                go_ret2
                exact ⟨rfl, GB.out.trans (g2.mono GB.out.size)⟩
              · have m2 := lit_f g3
                by_cases g4 : r.method = [80, 79, 83, 84]
                · have hkm : knownM r.method = true := by unfold knownM; simp [g4]
                  rw [if_neg (by simp [hkm])] at hp
                  obtain ⟨rfl, rfl⟩ := Prod.mk.inj hp
                  have m3 := lit_t g4
                  clear g1 g3 g4 hkm
                  go_wp2_with fail
                  (with_reducible refine (CK1.out).mono ?_); rintro e w2 ⟨rfl, g2⟩
                  have kO2 := HKO.out.below g2 HKO.out.lt
                  have x0 : w2.cell? ⟨w.heap.size + 1, 0, none⟩ = some (.int .i64 1) := kO2.cell 0
                  have y0 : w2.cell? ⟨w.heap.size + 1 + 1, 0, none⟩ = some (.bool true) := HO.out ▸ (HKF.out.below g2 HKF.out.lt).cell 0
                  have z0 : w2.cell? ⟨w.heap.size, 0, none⟩ = some (.string (bs r.method)) := (HKR.out.below g2 HKR.out.lt).cell 0
                  clear kO2
                  go_wp2_with fail
                  go_ret2
                  exact ⟨rfl, GB.out.trans (g2.mono GB.out.size)⟩
                · have hkm : knownM r.method = false := by unfold knownM; simp [g1, g3, g4]
                  rw [if_pos hkm] at hp
                  obtain ⟨rfl, rfl⟩ := Prod.mk.inj hp
                  have m3 := lit_f g4
                  clear g1 g3 g4 hkm
                  go_wp2_with fail
                  (with_reducible refine (CK1.out).mono ?_); rintro e w2 ⟨rfl, g2⟩
                  have kO2 := HKO.out.below g2 HKO.out.lt
                  have x0 : w2.cell? ⟨w.heap.size + 1, 0, none⟩ = some (.int .i64 1) := kO2.cell 0
                  have y0 : w2.cell? ⟨w.heap.size + 1 + 1, 0, none⟩ = some (.bool true) := HO.out ▸ (HKF.out.below g2 HKF.out.lt).cell 0
                  have z0 : w2.cell? ⟨w.heap.size, 0, none⟩ = some (.string (bs r.method)) := (HKR.out.below g2 HKR.out.lt).cell 0
                  clear kO2
                  go_wp2_with fail
                  go_ret2
                  exact ⟨rfl, GB.out.trans (g2.mono GB.out.size)⟩
        all_goals (
          simp only [if_true, if_neg (show ¬ (3 : Int) = 2 by decide), if_neg (show ¬ (4 : Int) = 2 by decide), if_neg (show ¬ (4 : Int) = 3 by decide), if_neg (show ¬ (5 : Int) = 2 by decide), if_neg (show ¬ (5 : Int) = 3 by decide), if_neg (show ¬ (5 : Int) = 4 by decide)] at hp
          obtain ⟨rfl, rfl⟩ := Prod.mk.inj hp
          go_wp2_with fail
          (with_reducible refine (CK1.out).mono ?_); rintro e w2 ⟨rfl, g2⟩
          have kO2 := HKO.out.below g2 HKO.out.lt
          have x0 := kO2.cell 0
          simp only [List.getElem?_toArray, List.getElem?_cons_zero] at x0
          clear kO2
          go_wp2_with fail
          go_ret2
          exact ⟨rfl, GB.out.trans (g2.mono GB.out.size)⟩)
      · rw [if_pos hE0] at hp
        obtain ⟨rfl, rfl⟩ := Prod.mk.inj hp
        have hne : ((E : Int) != 0) = true := by rw [bne_iff_ne]; omega
        have hne2 : ((E : Int) == 0) = false := by rw [beq_eq_false_iff_ne]; omega
        clear hE0
        rcases hk with ⟨rfl, rfl⟩ | rfl | rfl | rfl | rfl
        all_goals (
          go_wp2_with fail
          (with_reducible refine (CK1.out).mono ?_); rintro e w2 ⟨rfl, g2⟩
          go_wp2_with fail
          go_ret2
          exact ⟨rfl, GB.out.trans (g2.mono GB.out.size)⟩)
end

section
open Go.RowKit

theorem readsN {w : World} {B n g : Nat} {A : Option Addr} {l : List Fld} {C : Int} {A0 : Option Addr} {n0 c0 : Nat} {b : ByteArray} {cl h : Bool} (hr : Reads w B 2 A n (fldsC l)) (hl : l ≠ []) (k : Blk w g 24 #[.int .i64 C, .slice A0 n0 c0, .string b, .bool cl, .bool h]) : ∀ ad, A = some ad → ad.block ≠ g := by
  intro ad e hb
  have hl0 : 0 < l.length := List.length_pos_iff.2 hl
  obtain ⟨b', o, e2, _, h0, h1⟩ := hr.fld 0 hl0
  rw [e2] at e
  injection e with e
  subst e
  simp only at hb
  subst hb
  rw [k.cell] at h0 h1
  simp only [Nat.zero_mul, Nat.add_zero] at h0 h1
  match o with
  | 0 => simp at h0
  | 1 => simp at h0
  | 2 => simp at h1
  | 3 => simp at h0
  | 4 => simp at h0
  | o + 5 => simp at h0
theorem farR {w : World} {B size n g i : Nat} {A : Option Addr} {xs : List Value} (h : Reads w B size A n xs) (hne : ∀ a, A = some a → a.block ≠ g) (u : Value) : Reads (w.setCell ⟨g, i, none⟩ u) B size A n xs :=
  ⟨h.1, fun hn => by
    obtain ⟨ad, e, hb, hc⟩ := h.2 hn
    refine ⟨ad, e, hb, fun j v hv => (World.cell?_setCell_other w ⟨g, i, none⟩ _ u (fun e2 => hne ad e ?_)).trans (hc j v hv)⟩
    have := congrArg Addr.block e2
    rw [block_of_add] at this
    exact this.symm⟩
def set5 (W : World) (g : Nat) (b0 b1 b2 b3 b4 : Value) : World := ((((W.setCell ⟨g, 0, none⟩ b0).setCell ⟨g, 1, none⟩ b1).setCell ⟨g, 2, none⟩ b2).setCell ⟨g, 3, none⟩ b3).setCell ⟨g, 4, none⟩ b4
theorem reads5 {W : World} {A : Option Addr} {n g : Nat} {xs : List Value} (h : Reads W W.heap.size 2 A n xs) (hg : ∀ a, A = some a → a.block ≠ g) (b0 b1 b2 b3 b4 : Value) : Reads (set5 W g b0 b1 b2 b3 b4) (set5 W g b0 b1 b2 b3 b4).heap.size 2 A n xs := by
  have h0 := farR (i := 0) h hg b0
  have h1 := farR (i := 1) h0 hg b1
  have h2 := farR (i := 2) h1 hg b2
  have h3 := farR (i := 3) h2 hg b3
  have h4 := farR (i := 4) h3 hg b4
  have s : W.heap.size ≤ (set5 W g b0 b1 b2 b3 b4).heap.size := (bel5H (Below.refl 0 W) (Nat.zero_le g) b0 b1 b2 b3 b4).size
  exact Reads.more (show Reads (set5 W g b0 b1 b2 b3 b4) W.heap.size 2 A n xs from h4) s
/-- a result written: what it reads, and what lies below -/
theorem fin5N {w W : World} {g n : Nat} {A : Option Addr} {l : List Fld} (hr : Reads W W.heap.size 2 A n (fldsC l)) (hl : l ≠ []) (k : Blk W g 24 #[.int .i64 0, .slice none 0 0, .string ⟨#[]⟩, .bool false, .bool false]) (hB : Below w.heap.size w W) (hg : w.heap.size ≤ g) (b0 b1 b2 b3 b4 : Value) :
    Blk (set5 W g b0 b1 b2 b3 b4) g 24 #[b0, b1, b2, b3, b4] ∧ Reads (set5 W g b0 b1 b2 b3 b4) (set5 W g b0 b1 b2 b3 b4).heap.size 2 A n (fldsC l) ∧ Below w.heap.size w (set5 W g b0 b1 b2 b3 b4) :=
  ⟨blk5H k b0 b1 b2 b3 b4, reads5 hr (readsN hr hl k) b0 b1 b2 b3 b4, bel5H hB hg b0 b1 b2 b3 b4⟩
theorem fin5Z {w W : World} {g : Nat} (k : Blk W g 24 #[.int .i64 0, .slice none 0 0, .string ⟨#[]⟩, .bool false, .bool false]) (hB : Below w.heap.size w W) (hg : w.heap.size ≤ g) (b0 b1 b2 b3 b4 : Value) :
    Blk (set5 W g b0 b1 b2 b3 b4) g 24 #[b0, b1, b2, b3, b4] ∧ Below w.heap.size w (set5 W g b0 b1 b2 b3 b4) :=
  ⟨blk5H k b0 b1 b2 b3 b4, bel5H hB hg b0 b1 b2 b3 b4⟩
/-- one field ahead of a list of one -/
theorem app_twoR {W : World} {b B : Nat} {A2 : Option Addr} {c2 : Nat} (x y : Fld) (hx : Blk W b 57 #[.string (bs x.1), .string (bs x.2)]) (hy : Reads W B 2 A2 1 (fldsC [y])) :
    ∃ A c w5, (Builtin.append_ #[22, 22] 22 #[.slice (some ⟨b, 0, none⟩) 1 1, .slice A2 1 c2]).run Tryz.prog W = .ok (.slice A 2 c) w5 ∧ w5.ownsRow W.heap.size 57 2 (.slice A 2 c) 2 (fldsC [x, y]) ∧ Below W.heap.size W w5 := by
  obtain ⟨i0, hi, hz0, hz1, hz2⟩ := info_parts infoFldR
  have hc : ∀ {q : Nat} {z : Fld}, Blk W q 57 #[.string (bs z.1), .string (bs z.2)] → ∀ j u, (fldsC [z])[j]? = some u → W.cell? (Addr.add ⟨q, 0, none⟩ j) = some u := by
    intro q z hq j u hu
    have e : (Addr.add ⟨q, 0, none⟩ j) = ⟨q, j, none⟩ := by unfold Addr.add; split <;> simp_all
    rw [e, hq.cell j]
    simpa [fldsC] using hu
  obtain ⟨ad, rfl, _, hcy⟩ := hy.2 (by omega)
  obtain ⟨v', w', hrun, hown, hg⟩ := run_append_arg_grows (P := Tryz.prog) W 22 22 57 i0 (.agg #[.string .empty, .string .empty]) 2 32 Tryz.underlying22 hi hz0 hz1 hz2 rfl (by decide) ⟨b, 0, none⟩ 1 1 (fldsC [x]) (fldsC_len [x]) (hc hx) ad 1 c2 (fldsC [y]) (fldsC_len [y]) hcy (by omega) (by unfold maxLen; omega) (by omega)
  have hown2 : w'.ownsRow W.heap.size 57 2 v' 2 (fldsC [x, y]) := by
    have e : fldsC [x, y] = fldsC [x] ++ fldsC [y] := by simp [fldsC]
    rw [e]; exact hown
  obtain ⟨A, c, rfl⟩ := own_slice hown2
  exact ⟨A, c, w', hrun, hown2, (Below.refl _ W).grown hg (Nat.le_refl _) (by simp)⟩
theorem respF_ne (loc : List UInt8) : respF loc ≠ [] := by unfold respF; split <;> simp
def ErrPost (C : Int) (head close : Bool) (w : World) (e : Ending) (w' : World) : Prop :=
  ∃ A c, e = .returned (.tuple #[rspV ⟨C, [textF], (pageT C).1, close, head⟩ A 1 c, .int .i64 0]) ∧ Reads w' w'.heap.size 2 A 1 (fldsC [textF]) ∧ Below w.heap.size w w'
set_option maxRecDepth 100000 in
set_option maxHeartbeats 4000000 in
theorem rError42 (C : Int) (hC : reasonR C ≠ none) (head close : Bool) (w : World) :
    Calls Tryz.prog 51 #[.int .i64 C, .bool head, .bool close] w (ErrPost C head close w) := by
  obtain ⟨P, hP⟩ : ∃ P, (pageT C).1 = P := ⟨_, rfl⟩
  have cP := fun X => rPage42 C hC X
  rw [hP] at cP
  unfold ErrPost rspV
  rw [hP]
  have cR := fun X => rResp42 C [] P head close X
  unfold RespPost rspV at cR
  rw [show respF [] = [textF] from rfl] at cR
  have CP := Lib.hid cP
  have CR := Lib.hid (show ∀ X, Calls Tryz.prog 50 #[.int .i64 C, .string ⟨#[]⟩, .string (bs P), .bool head, .bool close] X fun e w' => ∃ A c, e = .returned (.agg #[.int .i64 C, .slice A 1 c, .string (bs P), .bool close, .bool head]) ∧ Reads w' w'.heap.size 2 A 1 (fldsC [textF]) ∧ Below X.heap.size X w' from cR)
  have B0 := Lib.hid ((Below.refl w.heap.size w).alloc (Nat.le_refl _) (.cells #[.int .i64 0, .slice none 0 0, .string ⟨#[]⟩, .bool false, .bool false] 24))
  have K0 := Lib.hid (Blk.new w 24 #[.int .i64 0, .slice none 0 0, .string ⟨#[]⟩, .bool false, .bool false])
  clear cP cR hP hC
  go_enter Tryz.func51, Tryz.ntmps51
  go_wp2_with fail
  (with_reducible refine (CP.out _).mono ?_); rintro e w1 ⟨rfl, g1⟩
  have K1 := Lib.hid (K0.out.below g1 K0.out.lt)
  have B1 := Lib.hid (B0.out.trans (g1.mono B0.out.size))
  clear g1 K0 B0 CP
  go_wp2_with fail
  (with_reducible refine (CR.out _).mono ?_); rintro e w2 ⟨A, c, rfl, r2, g2⟩
  have k2 := K1.out.below g2 K1.out.lt
  have q0 : w2.cell? ⟨w.heap.size, 0, none⟩ = some (.int .i64 0) := k2.cell 0
  have v0 := k2.frozen 0
  have q1 : w2.cell? ⟨w.heap.size, 1, none⟩ = some (.slice none 0 0) := k2.cell 1
  have v1 := k2.frozen 1
  have q2 : w2.cell? ⟨w.heap.size, 2, none⟩ = some (.string ⟨#[]⟩) := k2.cell 2
  have v2 := k2.frozen 2
  have q3 : w2.cell? ⟨w.heap.size, 3, none⟩ = some (.bool false) := k2.cell 3
  have v3 := k2.frozen 3
  have q4 : w2.cell? ⟨w.heap.size, 4, none⟩ = some (.bool false) := k2.cell 4
  have v4 := k2.frozen 4
  have FIN := Lib.hid (fin5N (w := w) r2 (by simp) k2 (B1.out.trans (g2.mono B1.out.size)) (Nat.le_refl _) (.int .i64 C) (.slice A 1 c) (.string (bs P)) (.bool close) (.bool head))
  unfold set5 at FIN
  clear k2 r2 g2 K1 B1 CR
  go_wp2_with fail
  refine bodyPost_ret (results_cell_tmpH (p := 6) (t := 7) (ty := 24) (by kernel_rfl) _ _ w.heap.size _ _ rfl (ld5H FIN.out.1 rfl) rfl) rfl ?_
  exact ⟨A, c, rfl, FIN.out.2.1, FIN.out.2.2⟩
set_option maxRecDepth 100000 in
set_option maxHeartbeats 16000000 in
theorem rAnswer42 (f : FoundP) (r : ReqP) (o : OutP) (S N V FA : Option Addr) (cs cn cv fn fc : Nat) (host : ByteArray) (close : Bool) (w : World) (hl : LightF f r) (hlo : o.loc.length ≤ 100000)
    (hN : Reads w w.heap.size 1 N f.names.length (strs f.names)) (hV : Reads w w.heap.size 1 V f.vals.length (strs f.vals)) :
    Calls Tryz.prog 20 #[reqV r host FA fn fc, outV o, fndV f S N V cs cn cv, .bool close] w (AnsPost r o f close w) := by
  have bW : Below w.heap.size w ((((w.alloc (.cells #[.string (bs r.method), .string (bs r.path), .string (bs r.query), .string host, .slice FA fn fc, .string (bs r.body)] 33)).alloc (.cells #[.int .i64 o.kind, .string o.sp, .string o.sq, .int .i64 o.code, .string (bs o.loc), .int .i64 o.why] 37)).alloc (.cells #[.bool f.ok, .slice S f.segs.length cs, .int .i64 f.kind, .string (bs f.text), .slice N f.names.length cn, .slice V f.vals.length cv, .string (bs f.rest)] 42)).alloc (.cells #[.int .i64 0, .slice none 0 0, .string ⟨#[]⟩, .bool false, .bool false] 24)) := ((((Below.refl _ _).alloc (Nat.le_refl _) _).alloc (by simp) _).alloc (by simp; omega) _).alloc (by simp; omega) _
  have kR : Blk ((((w.alloc (.cells #[.string (bs r.method), .string (bs r.path), .string (bs r.query), .string host, .slice FA fn fc, .string (bs r.body)] 33)).alloc (.cells #[.int .i64 o.kind, .string o.sp, .string o.sq, .int .i64 o.code, .string (bs o.loc), .int .i64 o.why] 37)).alloc (.cells #[.bool f.ok, .slice S f.segs.length cs, .int .i64 f.kind, .string (bs f.text), .slice N f.names.length cn, .slice V f.vals.length cv, .string (bs f.rest)] 42)).alloc (.cells #[.int .i64 0, .slice none 0 0, .string ⟨#[]⟩, .bool false, .bool false] 24)) (w.heap.size) 33 #[.string (bs r.method), .string (bs r.path), .string (bs r.query), .string host, .slice FA fn fc, .string (bs r.body)] := by
    have := (((Blk.new w 33 #[.string (bs r.method), .string (bs r.path), .string (bs r.query), .string host, .slice FA fn fc, .string (bs r.body)]).alloc (.cells #[.int .i64 o.kind, .string o.sp, .string o.sq, .int .i64 o.code, .string (bs o.loc), .int .i64 o.why] 37)).alloc (.cells #[.bool f.ok, .slice S f.segs.length cs, .int .i64 f.kind, .string (bs f.text), .slice N f.names.length cn, .slice V f.vals.length cv, .string (bs f.rest)] 42)).alloc (.cells #[.int .i64 0, .slice none 0 0, .string ⟨#[]⟩, .bool false, .bool false] 24)
    exact this
  have kO : Blk ((((w.alloc (.cells #[.string (bs r.method), .string (bs r.path), .string (bs r.query), .string host, .slice FA fn fc, .string (bs r.body)] 33)).alloc (.cells #[.int .i64 o.kind, .string o.sp, .string o.sq, .int .i64 o.code, .string (bs o.loc), .int .i64 o.why] 37)).alloc (.cells #[.bool f.ok, .slice S f.segs.length cs, .int .i64 f.kind, .string (bs f.text), .slice N f.names.length cn, .slice V f.vals.length cv, .string (bs f.rest)] 42)).alloc (.cells #[.int .i64 0, .slice none 0 0, .string ⟨#[]⟩, .bool false, .bool false] 24)) (w.heap.size + 1) 37 #[.int .i64 o.kind, .string o.sp, .string o.sq, .int .i64 o.code, .string (bs o.loc), .int .i64 o.why] := by
    have := ((Blk.new (w.alloc (.cells #[.string (bs r.method), .string (bs r.path), .string (bs r.query), .string host, .slice FA fn fc, .string (bs r.body)] 33)) 37 #[.int .i64 o.kind, .string o.sp, .string o.sq, .int .i64 o.code, .string (bs o.loc), .int .i64 o.why]).alloc (.cells #[.bool f.ok, .slice S f.segs.length cs, .int .i64 f.kind, .string (bs f.text), .slice N f.names.length cn, .slice V f.vals.length cv, .string (bs f.rest)] 42)).alloc (.cells #[.int .i64 0, .slice none 0 0, .string ⟨#[]⟩, .bool false, .bool false] 24)
    rw [show (w.alloc (.cells #[.string (bs r.method), .string (bs r.path), .string (bs r.query), .string host, .slice FA fn fc, .string (bs r.body)] 33)).heap.size = w.heap.size + 1 by simp] at this
    exact this
  have kF : Blk ((((w.alloc (.cells #[.string (bs r.method), .string (bs r.path), .string (bs r.query), .string host, .slice FA fn fc, .string (bs r.body)] 33)).alloc (.cells #[.int .i64 o.kind, .string o.sp, .string o.sq, .int .i64 o.code, .string (bs o.loc), .int .i64 o.why] 37)).alloc (.cells #[.bool f.ok, .slice S f.segs.length cs, .int .i64 f.kind, .string (bs f.text), .slice N f.names.length cn, .slice V f.vals.length cv, .string (bs f.rest)] 42)).alloc (.cells #[.int .i64 0, .slice none 0 0, .string ⟨#[]⟩, .bool false, .bool false] 24)) (w.heap.size + 1 + 1) 42 #[.bool f.ok, .slice S f.segs.length cs, .int .i64 f.kind, .string (bs f.text), .slice N f.names.length cn, .slice V f.vals.length cv, .string (bs f.rest)] := by
    have := (Blk.new ((w.alloc (.cells #[.string (bs r.method), .string (bs r.path), .string (bs r.query), .string host, .slice FA fn fc, .string (bs r.body)] 33)).alloc (.cells #[.int .i64 o.kind, .string o.sp, .string o.sq, .int .i64 o.code, .string (bs o.loc), .int .i64 o.why] 37)) 42 #[.bool f.ok, .slice S f.segs.length cs, .int .i64 f.kind, .string (bs f.text), .slice N f.names.length cn, .slice V f.vals.length cv, .string (bs f.rest)]).alloc (.cells #[.int .i64 0, .slice none 0 0, .string ⟨#[]⟩, .bool false, .bool false] 24)
    rw [show ((w.alloc (.cells #[.string (bs r.method), .string (bs r.path), .string (bs r.query), .string host, .slice FA fn fc, .string (bs r.body)] 33)).alloc (.cells #[.int .i64 o.kind, .string o.sp, .string o.sq, .int .i64 o.code, .string (bs o.loc), .int .i64 o.why] 37)).heap.size = w.heap.size + 1 + 1 by simp] at this
    exact this
  have kZ : Blk ((((w.alloc (.cells #[.string (bs r.method), .string (bs r.path), .string (bs r.query), .string host, .slice FA fn fc, .string (bs r.body)] 33)).alloc (.cells #[.int .i64 o.kind, .string o.sp, .string o.sq, .int .i64 o.code, .string (bs o.loc), .int .i64 o.why] 37)).alloc (.cells #[.bool f.ok, .slice S f.segs.length cs, .int .i64 f.kind, .string (bs f.text), .slice N f.names.length cn, .slice V f.vals.length cv, .string (bs f.rest)] 42)).alloc (.cells #[.int .i64 0, .slice none 0 0, .string ⟨#[]⟩, .bool false, .bool false] 24)) (w.heap.size + 1 + 1 + 1) 24 #[.int .i64 0, .slice none 0 0, .string ⟨#[]⟩, .bool false, .bool false] := by
    have := Blk.new (((w.alloc (.cells #[.string (bs r.method), .string (bs r.path), .string (bs r.query), .string host, .slice FA fn fc, .string (bs r.body)] 33)).alloc (.cells #[.int .i64 o.kind, .string o.sp, .string o.sq, .int .i64 o.code, .string (bs o.loc), .int .i64 o.why] 37)).alloc (.cells #[.bool f.ok, .slice S f.segs.length cs, .int .i64 f.kind, .string (bs f.text), .slice N f.names.length cn, .slice V f.vals.length cv, .string (bs f.rest)] 42)) 24 #[.int .i64 0, .slice none 0 0, .string ⟨#[]⟩, .bool false, .bool false]
    rw [show (((w.alloc (.cells #[.string (bs r.method), .string (bs r.path), .string (bs r.query), .string host, .slice FA fn fc, .string (bs r.body)] 33)).alloc (.cells #[.int .i64 o.kind, .string o.sp, .string o.sq, .int .i64 o.code, .string (bs o.loc), .int .i64 o.why] 37)).alloc (.cells #[.bool f.ok, .slice S f.segs.length cs, .int .i64 f.kind, .string (bs f.text), .slice N f.names.length cn, .slice V f.vals.length cv, .string (bs f.rest)] 42)).heap.size = w.heap.size + 1 + 1 + 1 by simp] at this
    exact this
  have cC := rCode42 f r o S N V FA cs cn cv fn fc host ((((w.alloc (.cells #[.string (bs r.method), .string (bs r.path), .string (bs r.query), .string host, .slice FA fn fc, .string (bs r.body)] 33)).alloc (.cells #[.int .i64 o.kind, .string o.sp, .string o.sq, .int .i64 o.code, .string (bs o.loc), .int .i64 o.why] 37)).alloc (.cells #[.bool f.ok, .slice S f.segs.length cs, .int .i64 f.kind, .string (bs f.text), .slice N f.names.length cn, .slice V f.vals.length cv, .string (bs f.rest)] 42)).alloc (.cells #[.int .i64 0, .slice none 0 0, .string ⟨#[]⟩, .bool false, .bool false] 24)) hl.fok
  have cB := fun X (hX : Below w.heap.size w X) => rBody f r S N V FA cs cn cv fn fc host X hl ((hN.below hX).more hX.size) ((hV.below hX).more hX.size)
  obtain ⟨C1, E1, hce⟩ : ∃ C1 E1, codeT r.method o.kind o.code f = (C1, E1) := ⟨_, _, rfl⟩
  rw [hce] at cC
  unfold reqV outV fndV at *
  have CC := Lib.hid cC
  have CB := Lib.hid cB
  have BW := Lib.hid bW
  have KR := Lib.hid kR
  have KO := Lib.hid kO
  have KF := Lib.hid kF
  have KZ := Lib.hid kZ
  clear bW kR kO kF kZ cC cB hl hN hV
  by_cases hE1 : E1 = 0
  case neg =>
    have hans : answerT r o.kind o.code o.loc f close = (noR, E1) := by unfold answerT; rw [hce, if_pos hE1]
    rw [ans_err hans]
    have hne : ((E1 : Int) != 0) = true := by rw [bne_iff_ne]; omega
    have hne2 : ((E1 : Int) == 0) = false := by rw [beq_eq_false_iff_ne]; omega
    clear hans hce hE1 hlo
    go_enter Tryz.func20, Tryz.ntmps20
    go_wp2_with fail
    (with_reducible refine (CC.out).mono ?_); rintro e w1 ⟨rfl, g1⟩
    have KR1 := Lib.hid (KR.out.below g1 KR.out.lt)
    have KO1 := Lib.hid (KO.out.below g1 KO.out.lt)
    have KF1 := Lib.hid (KF.out.below g1 KF.out.lt)
    have KZ1 := Lib.hid (KZ.out.below g1 KZ.out.lt)
    have B1 := Lib.hid (BW.out.trans (g1.mono BW.out.size))
    clear g1 CC KR KO KF KZ BW
    have FIN := Lib.hid (fin5Z (w := w) KZ1.out B1.out (by omega) (.int .i64 0) (.slice none 0 0) (.string ⟨#[]⟩) (.bool false) (.bool false))
    unfold set5 at FIN
    have zq0 : w1.cell? ⟨w.heap.size + 1 + 1 + 1, 0, none⟩ = some (.int .i64 0) := KZ1.out.cell 0
    have zv0 := KZ1.out.frozen 0
    have zq1 : w1.cell? ⟨w.heap.size + 1 + 1 + 1, 1, none⟩ = some (.slice none 0 0) := KZ1.out.cell 1
    have zv1 := KZ1.out.frozen 1
    have zq2 : w1.cell? ⟨w.heap.size + 1 + 1 + 1, 2, none⟩ = some (.string ⟨#[]⟩) := KZ1.out.cell 2
    have zv2 := KZ1.out.frozen 2
    have zq3 : w1.cell? ⟨w.heap.size + 1 + 1 + 1, 3, none⟩ = some (.bool false) := KZ1.out.cell 3
    have zv3 := KZ1.out.frozen 3
    have zq4 : w1.cell? ⟨w.heap.size + 1 + 1 + 1, 4, none⟩ = some (.bool false) := KZ1.out.cell 4
    have zv4 := KZ1.out.frozen 4
    go_wp2_with fail
    refine bodyPost_ret (results_cell_tmpH (p := 8) (t := 9) (ty := 24) (by kernel_rfl) _ _ (w.heap.size + 1 + 1 + 1) _ _ rfl (ld5H FIN.out.1 rfl) rfl) rfl ?_
    exact ⟨none, 0, rfl, Reads.none_, FIN.out.2⟩
  subst hE1
  have hHD : ((bs r.method).toList == [72, 69, 65, 68]) = (r.method == [72, 69, 65, 68]) := by rw [bs_toList]
  obtain ⟨hd, hhd⟩ : ∃ hd, (r.method == [72, 69, 65, 68]) = hd := ⟨_, rfl⟩
  rw [hhd] at hHD
  by_cases hk : o.kind = 2
  case pos =>
    have hcm : C1 = o.code ∧ movedC o.code = true := code_moved (by rw [hk] at hce; exact hce)
    obtain ⟨M, hM⟩ : ∃ M, mayR (locN, o.loc) = M := ⟨_, rfl⟩
    have hans : answerT r o.kind o.code o.loc f close = if M ≠ 0 then (noR, M) else (⟨o.code, [(locN, o.loc), textF], [], close, hd⟩, 0) := by
      unfold answerT; rw [hce, if_neg (by simp), if_pos hk, hM, hhd]
    have cM := fun X => rMay12 (locN, o.loc) X (by simp [locN]) (by simp only; omega)
    rw [hM] at cM
    have CM := Lib.hid (show ∀ X, Calls Tryz.prog 49 #[.agg #[.string ⟨#[76, 111, 99, 97, 116, 105, 111, 110]⟩, .string (bs o.loc)]] X fun e w' => e = .returned (.int .i64 (M : Nat)) ∧ Below X.heap.size X w' from cM)
    have hk2 : (o.kind == 2) = true := by rw [beq_iff_eq]; exact hk
    have HKD := Lib.hid hk
    obtain ⟨rfl, _⟩ := hcm
    clear hk hce cM hM hhd
    by_cases hM0 : M = 0
    case neg =>
      rw [if_pos hM0] at hans
      rw [ans_err hans]
      have hne : ((M : Int) != 0) = true := by rw [bne_iff_ne]; omega
      have hne2 : ((M : Int) == 0) = false := by rw [beq_eq_false_iff_ne]; omega
      clear hans hM0 hlo
      go_enter Tryz.func20, Tryz.ntmps20
      go_wp2_with fail
      (with_reducible refine (CC.out).mono ?_); rintro e w1 ⟨rfl, g1⟩
      have KR1 := Lib.hid (KR.out.below g1 KR.out.lt)
      have KO1 := Lib.hid (KO.out.below g1 KO.out.lt)
      have KF1 := Lib.hid (KF.out.below g1 KF.out.lt)
      have KZ1 := Lib.hid (KZ.out.below g1 KZ.out.lt)
      have B1 := Lib.hid (BW.out.trans (g1.mono BW.out.size))
      clear g1 CC KR KO KF KZ BW
      have rc0 : w1.cell? ⟨w.heap.size, 0, none⟩ = some (.string (bs r.method)) := KR1.out.cell 0
      have rc1 : w1.cell? ⟨w.heap.size, 1, none⟩ = some (.string (bs r.path)) := KR1.out.cell 1
      have rc2 : w1.cell? ⟨w.heap.size, 2, none⟩ = some (.string (bs r.query)) := KR1.out.cell 2
      have rc3 : w1.cell? ⟨w.heap.size, 3, none⟩ = some (.string host) := KR1.out.cell 3
      have rc4 : w1.cell? ⟨w.heap.size, 4, none⟩ = some (.slice FA fn fc) := KR1.out.cell 4
      have rc5 : w1.cell? ⟨w.heap.size, 5, none⟩ = some (.string (bs r.body)) := KR1.out.cell 5
      have oc0 : w1.cell? ⟨w.heap.size + 1, 0, none⟩ = some (.int .i64 o.kind) := KO1.out.cell 0
      have oc1 : w1.cell? ⟨w.heap.size + 1, 1, none⟩ = some (.string o.sp) := KO1.out.cell 1
      have oc2 : w1.cell? ⟨w.heap.size + 1, 2, none⟩ = some (.string o.sq) := KO1.out.cell 2
      have oc3 : w1.cell? ⟨w.heap.size + 1, 3, none⟩ = some (.int .i64 o.code) := KO1.out.cell 3
      have oc4 : w1.cell? ⟨w.heap.size + 1, 4, none⟩ = some (.string (bs o.loc)) := KO1.out.cell 4
      have oc5 : w1.cell? ⟨w.heap.size + 1, 5, none⟩ = some (.int .i64 o.why) := KO1.out.cell 5
      go_wp2_with fail
      (with_reducible refine (CM.out _).mono ?_); rintro e w2 ⟨rfl, g2⟩
      have KZ2 := Lib.hid (KZ1.out.below g2 KZ1.out.lt)
      have B2 := Lib.hid (B1.out.trans (g2.mono B1.out.size))
      have FIN := Lib.hid (fin5Z (w := w) KZ2.out B2.out (by omega) (.int .i64 0) (.slice none 0 0) (.string ⟨#[]⟩) (.bool false) (.bool false))
      unfold set5 at FIN
      have zq0 : w2.cell? ⟨w.heap.size + 1 + 1 + 1, 0, none⟩ = some (.int .i64 0) := KZ2.out.cell 0
      have zv0 := KZ2.out.frozen 0
      have zq1 : w2.cell? ⟨w.heap.size + 1 + 1 + 1, 1, none⟩ = some (.slice none 0 0) := KZ2.out.cell 1
      have zv1 := KZ2.out.frozen 1
      have zq2 : w2.cell? ⟨w.heap.size + 1 + 1 + 1, 2, none⟩ = some (.string ⟨#[]⟩) := KZ2.out.cell 2
      have zv2 := KZ2.out.frozen 2
      have zq3 : w2.cell? ⟨w.heap.size + 1 + 1 + 1, 3, none⟩ = some (.bool false) := KZ2.out.cell 3
      have zv3 := KZ2.out.frozen 3
      have zq4 : w2.cell? ⟨w.heap.size + 1 + 1 + 1, 4, none⟩ = some (.bool false) := KZ2.out.cell 4
      have zv4 := KZ2.out.frozen 4
      clear g2
      go_wp2_with fail
      refine bodyPost_ret (results_cell_tmpH (p := 8) (t := 9) (ty := 24) (by kernel_rfl) _ _ (w.heap.size + 1 + 1 + 1) _ _ rfl (ld5H FIN.out.1 rfl) rfl) rfl ?_
      exact ⟨none, 0, rfl, Reads.none_, FIN.out.2⟩
    subst hM0
    rw [if_neg (by simp)] at hans
    rw [ans_ok hans]
    clear hans
    have cR := fun X => rResp42 o.code o.loc [] hd close X
    unfold RespPost rspV at cR
    obtain ⟨FL, hFL⟩ : ∃ FL, respF o.loc = FL := ⟨_, rfl⟩
    have hFn : FL ≠ [] := by rw [← hFL]; exact respF_ne _
    simp only at cR
    rw [hFL] at cR
    have CR := Lib.hid (show ∀ X, Calls Tryz.prog 50 #[.int .i64 o.code, .string (bs o.loc), .string ⟨#[]⟩, .bool hd, .bool close] X fun e w' => ∃ A c, e = .returned (.agg #[.int .i64 o.code, .slice A FL.length c, .string ⟨#[]⟩, .bool close, .bool hd]) ∧ Reads w' w'.heap.size 2 A FL.length (fldsC FL) ∧ Below X.heap.size X w' from cR)
    have HFL := Lib.hid hFL
    have HFN := Lib.hid hFn
    clear cR hFL hFn hlo
    go_enter Tryz.func20, Tryz.ntmps20
    go_wp2_with fail
    (with_reducible refine (CC.out).mono ?_); rintro e w1 ⟨rfl, g1⟩
    have KR1 := Lib.hid (KR.out.below g1 KR.out.lt)
    have KO1 := Lib.hid (KO.out.below g1 KO.out.lt)
    have KF1 := Lib.hid (KF.out.below g1 KF.out.lt)
    have KZ1 := Lib.hid (KZ.out.below g1 KZ.out.lt)
    have B1 := Lib.hid (BW.out.trans (g1.mono BW.out.size))
    clear g1 CC KR KO KF KZ BW
    have rc0 : w1.cell? ⟨w.heap.size, 0, none⟩ = some (.string (bs r.method)) := KR1.out.cell 0
    have rc1 : w1.cell? ⟨w.heap.size, 1, none⟩ = some (.string (bs r.path)) := KR1.out.cell 1
    have rc2 : w1.cell? ⟨w.heap.size, 2, none⟩ = some (.string (bs r.query)) := KR1.out.cell 2
    have rc3 : w1.cell? ⟨w.heap.size, 3, none⟩ = some (.string host) := KR1.out.cell 3
    have rc4 : w1.cell? ⟨w.heap.size, 4, none⟩ = some (.slice FA fn fc) := KR1.out.cell 4
    have rc5 : w1.cell? ⟨w.heap.size, 5, none⟩ = some (.string (bs r.body)) := KR1.out.cell 5
    have oc0 : w1.cell? ⟨w.heap.size + 1, 0, none⟩ = some (.int .i64 o.kind) := KO1.out.cell 0
    have oc1 : w1.cell? ⟨w.heap.size + 1, 1, none⟩ = some (.string o.sp) := KO1.out.cell 1
    have oc2 : w1.cell? ⟨w.heap.size + 1, 2, none⟩ = some (.string o.sq) := KO1.out.cell 2
    have oc3 : w1.cell? ⟨w.heap.size + 1, 3, none⟩ = some (.int .i64 o.code) := KO1.out.cell 3
    have oc4 : w1.cell? ⟨w.heap.size + 1, 4, none⟩ = some (.string (bs o.loc)) := KO1.out.cell 4
    have oc5 : w1.cell? ⟨w.heap.size + 1, 5, none⟩ = some (.int .i64 o.why) := KO1.out.cell 5
    go_wp2_with fail
    (with_reducible refine (CM.out _).mono ?_); rintro e w2 ⟨rfl, g2⟩
    have KZ2 := Lib.hid (KZ1.out.below g2 KZ1.out.lt)
    have KO2 := Lib.hid (KO1.out.below g2 KO1.out.lt)
    have B2 := Lib.hid (B1.out.trans (g2.mono B1.out.size))
    clear g2 KZ1 KO1 KR1 KF1 B1 CM rc0 rc1 rc2 rc3 rc4 rc5 oc0 oc1 oc2 oc3 oc4 oc5
    have oc0 : w2.cell? ⟨w.heap.size + 1, 0, none⟩ = some (.int .i64 o.kind) := KO2.out.cell 0
    have oc1 : w2.cell? ⟨w.heap.size + 1, 1, none⟩ = some (.string o.sp) := KO2.out.cell 1
    have oc2 : w2.cell? ⟨w.heap.size + 1, 2, none⟩ = some (.string o.sq) := KO2.out.cell 2
    have oc3 : w2.cell? ⟨w.heap.size + 1, 3, none⟩ = some (.int .i64 o.code) := KO2.out.cell 3
    have oc4 : w2.cell? ⟨w.heap.size + 1, 4, none⟩ = some (.string (bs o.loc)) := KO2.out.cell 4
    have oc5 : w2.cell? ⟨w.heap.size + 1, 5, none⟩ = some (.int .i64 o.why) := KO2.out.cell 5
    go_wp2_with fail
    (with_reducible refine (CR.out _).mono ?_); rintro e w3 ⟨A, c, rfl, r3, g3⟩
    have bX : Below w3.heap.size w3 (w3.alloc (.cells #[.int .i64 o.code, .slice A FL.length c, .string ⟨#[]⟩, .bool close, .bool hd] 24)) := (Below.refl _ _).alloc (Nat.le_refl _) _
    have KT := Lib.hid (Blk.new w3 24 #[.int .i64 o.code, .slice A FL.length c, .string ⟨#[]⟩, .bool close, .bool hd])
    have KZ3 := Lib.hid ((KZ2.out.below g3 KZ2.out.lt).alloc (.cells #[.int .i64 o.code, .slice A FL.length c, .string ⟨#[]⟩, .bool close, .bool hd] 24))
    have KO3 := Lib.hid ((KO2.out.below g3 KO2.out.lt).alloc (.cells #[.int .i64 o.code, .slice A FL.length c, .string ⟨#[]⟩, .bool close, .bool hd] 24))
    have R3 := Lib.hid ((r3.below bX).more bX.size)
    have B3 := Lib.hid ((B2.out.trans (g3.mono B2.out.size)).trans (bX.mono (B2.out.trans (g3.mono B2.out.size)).size))
    have HZT := Lib.hid (show w.heap.size + 1 + 1 + 1 < w3.heap.size from Nat.lt_of_lt_of_le KZ2.out.lt g3.size)
    clear bX r3 g3 KZ2 KO2 B2 CR oc0 oc1 oc2 oc3 oc4 oc5
    go_upto_region 10 with (fail)
    generalize (w3.alloc (.cells #[.int .i64 o.code, .slice A FL.length c, .string ⟨#[]⟩, .bool close, .bool hd] 24)) = Z at KT KZ3 KO3 R3 B3 ⊢
    have lo : Z.cell? ⟨w.heap.size + 1, 4, none⟩ = some (.string (bs o.loc)) := KO3.out.cell 4
    have hko : Z.cell? ⟨w.heap.size + 1, 0, none⟩ = some (.int .i64 o.kind) := KO3.out.cell 0
    by_cases hem : o.loc = []
    case neg =>
      obtain ⟨m1, m2⟩ := nemp_bs hem
      have hF2 : FL = [(locN, o.loc), textF] := by rw [← HFL.out]; exact if_neg hem
      subst hF2
      have KZ4 := Lib.hid KZ3.out
      have B4 := Lib.hid B3.out
      have kT := KT.out
      have t0 : Z.cell? ⟨w3.heap.size, 0, none⟩ = some (.int .i64 o.code) := kT.cell 0
      have t1 : Z.cell? ⟨w3.heap.size, 1, none⟩ = some (.slice A [(locN, o.loc), textF].length c) := kT.cell 1
      have t2 : Z.cell? ⟨w3.heap.size, 2, none⟩ = some (.string ⟨#[]⟩) := kT.cell 2
      have t3 : Z.cell? ⟨w3.heap.size, 3, none⟩ = some (.bool close) := kT.cell 3
      have t4 : Z.cell? ⟨w3.heap.size, 4, none⟩ = some (.bool hd) := kT.cell 4
      have FIN := Lib.hid (fin5N (w := w) R3.out (by simp) KZ4.out B4.out (by omega) (.int .i64 o.code) (.slice A [(locN, o.loc), textF].length c) (.string ⟨#[]⟩) (.bool close) (.bool hd))
      unfold set5 at FIN
      have zq0 : Z.cell? ⟨w.heap.size + 1 + 1 + 1, 0, none⟩ = some (.int .i64 0) := KZ4.out.cell 0
      have zv0 := KZ4.out.frozen 0
      have zq1 : Z.cell? ⟨w.heap.size + 1 + 1 + 1, 1, none⟩ = some (.slice none 0 0) := KZ4.out.cell 1
      have zv1 := KZ4.out.frozen 1
      have zq2 : Z.cell? ⟨w.heap.size + 1 + 1 + 1, 2, none⟩ = some (.string ⟨#[]⟩) := KZ4.out.cell 2
      have zv2 := KZ4.out.frozen 2
      have zq3 : Z.cell? ⟨w.heap.size + 1 + 1 + 1, 3, none⟩ = some (.bool false) := KZ4.out.cell 3
      have zv3 := KZ4.out.frozen 3
      have zq4 : Z.cell? ⟨w.heap.size + 1 + 1 + 1, 4, none⟩ = some (.bool false) := KZ4.out.cell 4
      have zv4 := KZ4.out.frozen 4
      clear hem kT
      go_wp2_with fail
      refine bodyPost_ret (results_cell_tmpH (p := 8) (t := 9) (ty := 24) (by kernel_rfl) _ _ (w.heap.size + 1 + 1 + 1) _ _ rfl (ld5H FIN.out.1 rfl) rfl) rfl ?_
      exact ⟨A, c, rfl, FIN.out.2.1, FIN.out.2.2⟩
    obtain ⟨m1, m2⟩ := emp_bs hem
    have hF2 : FL = [textF] := by rw [← HFL.out]; exact if_pos hem
    subst hF2
    have bX : Below Z.heap.size Z (Z.alloc (.cells #[.string ⟨#[76, 111, 99, 97, 116, 105, 111, 110]⟩, .string ⟨#[]⟩] 57)) := (Below.refl _ _).alloc (Nat.le_refl _) _
    obtain ⟨A5, c5, w5, hrun, hown, hbel⟩ := app_twoR (c2 := c) (locN, []) textF (Blk.new Z 57 #[.string ⟨#[76, 111, 99, 97, 116, 105, 111, 110]⟩, .string ⟨#[]⟩]) (R3.out.below bX)
    have HRUN := Lib.hid hrun
    have kT5 := ((KT.out.alloc (.cells #[.string ⟨#[76, 111, 99, 97, 116, 105, 111, 110]⟩, .string ⟨#[]⟩] 57)).below hbel (KT.out.alloc (.cells #[.string ⟨#[76, 111, 99, 97, 116, 105, 111, 110]⟩, .string ⟨#[]⟩] 57)).lt)
    have kZ5 := ((KZ3.out.alloc (.cells #[.string ⟨#[76, 111, 99, 97, 116, 105, 111, 110]⟩, .string ⟨#[]⟩] 57)).below hbel (KZ3.out.alloc (.cells #[.string ⟨#[76, 111, 99, 97, 116, 105, 111, 110]⟩, .string ⟨#[]⟩] 57)).lt)
    have b5 := (B3.out.trans (bX.mono B3.out.size)).trans (hbel.mono (B3.out.trans (bX.mono B3.out.size)).size)
    have t1x : (Z.alloc (.cells #[.string ⟨#[76, 111, 99, 97, 116, 105, 111, 110]⟩, .string ⟨#[]⟩] 57)).cell? ⟨w3.heap.size, 1, none⟩ = some (.slice A 1 c) := (KT.out.alloc (.cells #[.string ⟨#[76, 111, 99, 97, 116, 105, 111, 110]⟩, .string ⟨#[]⟩] 57)).cell 1
    have t1y : Z.cell? ⟨w3.heap.size, 1, none⟩ = some (.slice A 1 c) := KT.out.cell 1
    have t1z : w5.cell? ⟨w3.heap.size, 1, none⟩ = some (.slice A 1 c) := kT5.cell 1
    have t1f := kT5.frozen 1
    have kT6 := kT5.set_ 1 (.slice A5 2 c5)
    have eT : (#[.int .i64 o.code, .slice A [textF].length c, .string ⟨#[]⟩, .bool close, .bool hd] : Array Value).setIfInBounds 1 (.slice A5 2 c5) = #[.int .i64 o.code, .slice A5 2 c5, .string ⟨#[]⟩, .bool close, .bool hd] := by simp
    rw [eT] at kT6
    have nZT : w.heap.size + 1 + 1 + 1 ≠ w3.heap.size := by have := HZT.out; omega
    have KZ4 := Lib.hid (kZ5.far (p := ⟨w3.heap.size, 1, none⟩) nZT (.slice A5 2 c5))
    have B4 := Lib.hid (b5.setCell (p := ⟨w3.heap.size, 1, none⟩) (by show w.heap.size ≤ w3.heap.size; have := HZT.out; omega) (.slice A5 2 c5))
    have r6 := Reads.of_own (hown.kept (Lib.grownBy_setB (World.grownBy.refl w5 (some w3.heap.size)) 1 (.slice A5 2 c5)) (.inr (own_blk_ne (e := 57) hown kT5 (by decide))))
    have t0 : (w5.setCell ⟨w3.heap.size, 1, none⟩ (.slice A5 2 c5)).cell? ⟨w3.heap.size, 0, none⟩ = some (.int .i64 o.code) := kT6.cell 0
    have t1 : (w5.setCell ⟨w3.heap.size, 1, none⟩ (.slice A5 2 c5)).cell? ⟨w3.heap.size, 1, none⟩ = some (.slice A5 2 c5) := kT6.cell 1
    have t2 : (w5.setCell ⟨w3.heap.size, 1, none⟩ (.slice A5 2 c5)).cell? ⟨w3.heap.size, 2, none⟩ = some (.string ⟨#[]⟩) := kT6.cell 2
    have t3 : (w5.setCell ⟨w3.heap.size, 1, none⟩ (.slice A5 2 c5)).cell? ⟨w3.heap.size, 3, none⟩ = some (.bool close) := kT6.cell 3
    have t4 : (w5.setCell ⟨w3.heap.size, 1, none⟩ (.slice A5 2 c5)).cell? ⟨w3.heap.size, 4, none⟩ = some (.bool hd) := kT6.cell 4
    have FIN := Lib.hid (fin5N (w := w) r6 (by simp) KZ4.out B4.out (by omega) (.int .i64 o.code) (.slice A5 2 c5) (.string ⟨#[]⟩) (.bool close) (.bool hd))
    unfold set5 at FIN
    have zq0 : (w5.setCell ⟨w3.heap.size, 1, none⟩ (.slice A5 2 c5)).cell? ⟨w.heap.size + 1 + 1 + 1, 0, none⟩ = some (.int .i64 0) := KZ4.out.cell 0
    have zv0 := KZ4.out.frozen 0
    have zq1 : (w5.setCell ⟨w3.heap.size, 1, none⟩ (.slice A5 2 c5)).cell? ⟨w.heap.size + 1 + 1 + 1, 1, none⟩ = some (.slice none 0 0) := KZ4.out.cell 1
    have zv1 := KZ4.out.frozen 1
    have zq2 : (w5.setCell ⟨w3.heap.size, 1, none⟩ (.slice A5 2 c5)).cell? ⟨w.heap.size + 1 + 1 + 1, 2, none⟩ = some (.string ⟨#[]⟩) := KZ4.out.cell 2
    have zv2 := KZ4.out.frozen 2
    have zq3 : (w5.setCell ⟨w3.heap.size, 1, none⟩ (.slice A5 2 c5)).cell? ⟨w.heap.size + 1 + 1 + 1, 3, none⟩ = some (.bool false) := KZ4.out.cell 3
    have zv3 := KZ4.out.frozen 3
    have zq4 : (w5.setCell ⟨w3.heap.size, 1, none⟩ (.slice A5 2 c5)).cell? ⟨w.heap.size + 1 + 1 + 1, 4, none⟩ = some (.bool false) := KZ4.out.cell 4
    have zv4 := KZ4.out.frozen 4
    have HEM := Lib.hid hem
    clear hem bX hrun hown hbel kT5 kZ5 b5 kT6 eT nZT r6 KT KZ3 KO3 R3 B3 KZ4 B4
    go_wp2_with (at_builtin; refine wpList_append_run HRUN.out rfl _ _ rfl rfl rfl rfl ?_)
    refine bodyPost_ret (results_cell_tmpH (p := 8) (t := 9) (ty := 24) (by kernel_rfl) _ _ (w.heap.size + 1 + 1 + 1) _ _ rfl (ld5H FIN.out.1 rfl) rfl) rfl ?_
    exact ⟨A5, c5, rfl, by rw [HEM.out]; exact FIN.out.2.1, FIN.out.2.2⟩
  have hk2 : (o.kind == 2) = false := by rw [beq_eq_false_iff_ne]; exact hk
  rcases code_cases hce hk with ⟨rfl, hc0, hok⟩ | ⟨hC, hpg⟩
  case inr =>
    have hans : answerT r o.kind o.code o.loc f close = (⟨C1, [textF], (pageT C1).1, close, hd⟩, 0) := by
      unfold answerT; rw [hce, if_neg (by simp), if_neg hk, if_neg hC, hhd]
    rw [ans_ok hans]
    have hre : reasonR C1 ≠ none := by intro e; rw [page_none e] at hpg; exact absurd hpg (by decide)
    have cE := fun X => rError42 C1 hre hd close X
    unfold ErrPost rspV at cE
    simp only at cE
    obtain ⟨P, hP⟩ : ∃ P, (pageT C1).1 = P := ⟨_, rfl⟩
    rw [hP] at cE ⊢
    have CE := Lib.hid cE
    have hC1 : (C1 != 200) = true := by rw [bne_iff_ne]; exact hC
    have hC2 : (C1 == 200) = false := by rw [beq_eq_false_iff_ne]; exact hC
    clear hans hre cE hP hC hpg hce hk hhd hlo
    go_enter Tryz.func20, Tryz.ntmps20
    go_wp2_with fail
    (with_reducible refine (CC.out).mono ?_); rintro e w1 ⟨rfl, g1⟩
    have KR1 := Lib.hid (KR.out.below g1 KR.out.lt)
    have KO1 := Lib.hid (KO.out.below g1 KO.out.lt)
    have KF1 := Lib.hid (KF.out.below g1 KF.out.lt)
    have KZ1 := Lib.hid (KZ.out.below g1 KZ.out.lt)
    have B1 := Lib.hid (BW.out.trans (g1.mono BW.out.size))
    clear g1 CC KR KO KF KZ BW
    have rc0 : w1.cell? ⟨w.heap.size, 0, none⟩ = some (.string (bs r.method)) := KR1.out.cell 0
    have rc1 : w1.cell? ⟨w.heap.size, 1, none⟩ = some (.string (bs r.path)) := KR1.out.cell 1
    have rc2 : w1.cell? ⟨w.heap.size, 2, none⟩ = some (.string (bs r.query)) := KR1.out.cell 2
    have rc3 : w1.cell? ⟨w.heap.size, 3, none⟩ = some (.string host) := KR1.out.cell 3
    have rc4 : w1.cell? ⟨w.heap.size, 4, none⟩ = some (.slice FA fn fc) := KR1.out.cell 4
    have rc5 : w1.cell? ⟨w.heap.size, 5, none⟩ = some (.string (bs r.body)) := KR1.out.cell 5
    have oc0 : w1.cell? ⟨w.heap.size + 1, 0, none⟩ = some (.int .i64 o.kind) := KO1.out.cell 0
    have oc1 : w1.cell? ⟨w.heap.size + 1, 1, none⟩ = some (.string o.sp) := KO1.out.cell 1
    have oc2 : w1.cell? ⟨w.heap.size + 1, 2, none⟩ = some (.string o.sq) := KO1.out.cell 2
    have oc3 : w1.cell? ⟨w.heap.size + 1, 3, none⟩ = some (.int .i64 o.code) := KO1.out.cell 3
    have oc4 : w1.cell? ⟨w.heap.size + 1, 4, none⟩ = some (.string (bs o.loc)) := KO1.out.cell 4
    have oc5 : w1.cell? ⟨w.heap.size + 1, 5, none⟩ = some (.int .i64 o.why) := KO1.out.cell 5
    go_wp2_with fail
    (with_reducible refine (CE.out _).mono ?_); rintro e w2 ⟨A, c, rfl, r2, g2⟩
    have KZ2 := Lib.hid (KZ1.out.below g2 KZ1.out.lt)
    have B2 := Lib.hid (B1.out.trans (g2.mono B1.out.size))
    have FIN := Lib.hid (fin5N (w := w) r2 (by simp) KZ2.out B2.out (by omega) (.int .i64 C1) (.slice A 1 c) (.string (bs P)) (.bool close) (.bool hd))
    unfold set5 at FIN
    have zq0 : w2.cell? ⟨w.heap.size + 1 + 1 + 1, 0, none⟩ = some (.int .i64 0) := KZ2.out.cell 0
    have zv0 := KZ2.out.frozen 0
    have zq1 : w2.cell? ⟨w.heap.size + 1 + 1 + 1, 1, none⟩ = some (.slice none 0 0) := KZ2.out.cell 1
    have zv1 := KZ2.out.frozen 1
    have zq2 : w2.cell? ⟨w.heap.size + 1 + 1 + 1, 2, none⟩ = some (.string ⟨#[]⟩) := KZ2.out.cell 2
    have zv2 := KZ2.out.frozen 2
    have zq3 : w2.cell? ⟨w.heap.size + 1 + 1 + 1, 3, none⟩ = some (.bool false) := KZ2.out.cell 3
    have zv3 := KZ2.out.frozen 3
    have zq4 : w2.cell? ⟨w.heap.size + 1 + 1 + 1, 4, none⟩ = some (.bool false) := KZ2.out.cell 4
    have zv4 := KZ2.out.frozen 4
    clear g2 r2
    go_wp2_with fail
    refine bodyPost_ret (results_cell_tmpH (p := 8) (t := 9) (ty := 24) (by kernel_rfl) _ _ (w.heap.size + 1 + 1 + 1) _ _ rfl (ld5H FIN.out.1 rfl) rfl) rfl ?_
    exact ⟨A, c, rfl, FIN.out.2.1, FIN.out.2.2⟩
  obtain ⟨Bt, Eb, hbt⟩ : ∃ Bt Eb, bodyT f r = (Bt, Eb) := ⟨_, _, rfl⟩
  have hans : answerT r o.kind o.code o.loc f close = if Eb ≠ 0 then (noR, Eb) else (⟨200, [textF], Bt, close, hd⟩, 0) := by
    unfold answerT; rw [hce, if_neg (by simp), if_neg hk, if_pos rfl, hbt, hhd]
  have CB2 := Lib.hid CB.out
  rw [hbt] at CB2
  clear CB hce hk hhd hbt hlo hc0 hok
  by_cases hE0 : Eb = 0
  case neg =>
    rw [if_pos hE0] at hans
    rw [ans_err hans]
    have hne : ((Eb : Int) != 0) = true := by rw [bne_iff_ne]; omega
    have hne2 : ((Eb : Int) == 0) = false := by rw [beq_eq_false_iff_ne]; omega
    clear hans hE0
    go_enter Tryz.func20, Tryz.ntmps20
    go_wp2_with fail
    (with_reducible refine (CC.out).mono ?_); rintro e w1 ⟨rfl, g1⟩
    have KR1 := Lib.hid (KR.out.below g1 KR.out.lt)
    have KO1 := Lib.hid (KO.out.below g1 KO.out.lt)
    have KF1 := Lib.hid (KF.out.below g1 KF.out.lt)
    have KZ1 := Lib.hid (KZ.out.below g1 KZ.out.lt)
    have B1 := Lib.hid (BW.out.trans (g1.mono BW.out.size))
    clear g1 CC KR KO KF KZ BW
    have rc0 : w1.cell? ⟨w.heap.size, 0, none⟩ = some (.string (bs r.method)) := KR1.out.cell 0
    have rc1 : w1.cell? ⟨w.heap.size, 1, none⟩ = some (.string (bs r.path)) := KR1.out.cell 1
    have rc2 : w1.cell? ⟨w.heap.size, 2, none⟩ = some (.string (bs r.query)) := KR1.out.cell 2
    have rc3 : w1.cell? ⟨w.heap.size, 3, none⟩ = some (.string host) := KR1.out.cell 3
    have rc4 : w1.cell? ⟨w.heap.size, 4, none⟩ = some (.slice FA fn fc) := KR1.out.cell 4
    have rc5 : w1.cell? ⟨w.heap.size, 5, none⟩ = some (.string (bs r.body)) := KR1.out.cell 5
    have oc0 : w1.cell? ⟨w.heap.size + 1, 0, none⟩ = some (.int .i64 o.kind) := KO1.out.cell 0
    have oc1 : w1.cell? ⟨w.heap.size + 1, 1, none⟩ = some (.string o.sp) := KO1.out.cell 1
    have oc2 : w1.cell? ⟨w.heap.size + 1, 2, none⟩ = some (.string o.sq) := KO1.out.cell 2
    have oc3 : w1.cell? ⟨w.heap.size + 1, 3, none⟩ = some (.int .i64 o.code) := KO1.out.cell 3
    have oc4 : w1.cell? ⟨w.heap.size + 1, 4, none⟩ = some (.string (bs o.loc)) := KO1.out.cell 4
    have oc5 : w1.cell? ⟨w.heap.size + 1, 5, none⟩ = some (.int .i64 o.why) := KO1.out.cell 5
    have fc0 : w1.cell? ⟨w.heap.size + 1 + 1, 0, none⟩ = some (.bool f.ok) := KF1.out.cell 0
    have fc1 : w1.cell? ⟨w.heap.size + 1 + 1, 1, none⟩ = some (.slice S f.segs.length cs) := KF1.out.cell 1
    have fc2 : w1.cell? ⟨w.heap.size + 1 + 1, 2, none⟩ = some (.int .i64 f.kind) := KF1.out.cell 2
    have fc3 : w1.cell? ⟨w.heap.size + 1 + 1, 3, none⟩ = some (.string (bs f.text)) := KF1.out.cell 3
    have fc4 : w1.cell? ⟨w.heap.size + 1 + 1, 4, none⟩ = some (.slice N f.names.length cn) := KF1.out.cell 4
    have fc5 : w1.cell? ⟨w.heap.size + 1 + 1, 5, none⟩ = some (.slice V f.vals.length cv) := KF1.out.cell 5
    have fc6 : w1.cell? ⟨w.heap.size + 1 + 1, 6, none⟩ = some (.string (bs f.rest)) := KF1.out.cell 6
    have CB3 := Lib.hid (CB2.out w1 B1.out)
    go_wp2_with fail
    (with_reducible refine (CB3.out).mono ?_); rintro e w2 ⟨rfl, g2⟩
    have KZ2 := Lib.hid (KZ1.out.below g2 KZ1.out.lt)
    have B2 := Lib.hid (B1.out.trans (g2.mono B1.out.size))
    have FIN := Lib.hid (fin5Z (w := w) KZ2.out B2.out (by omega) (.int .i64 0) (.slice none 0 0) (.string ⟨#[]⟩) (.bool false) (.bool false))
    unfold set5 at FIN
    have zq0 : w2.cell? ⟨w.heap.size + 1 + 1 + 1, 0, none⟩ = some (.int .i64 0) := KZ2.out.cell 0
    have zv0 := KZ2.out.frozen 0
    have zq1 : w2.cell? ⟨w.heap.size + 1 + 1 + 1, 1, none⟩ = some (.slice none 0 0) := KZ2.out.cell 1
    have zv1 := KZ2.out.frozen 1
    have zq2 : w2.cell? ⟨w.heap.size + 1 + 1 + 1, 2, none⟩ = some (.string ⟨#[]⟩) := KZ2.out.cell 2
    have zv2 := KZ2.out.frozen 2
    have zq3 : w2.cell? ⟨w.heap.size + 1 + 1 + 1, 3, none⟩ = some (.bool false) := KZ2.out.cell 3
    have zv3 := KZ2.out.frozen 3
    have zq4 : w2.cell? ⟨w.heap.size + 1 + 1 + 1, 4, none⟩ = some (.bool false) := KZ2.out.cell 4
    have zv4 := KZ2.out.frozen 4
    clear g2
    go_wp2_with fail
    refine bodyPost_ret (results_cell_tmpH (p := 8) (t := 9) (ty := 24) (by kernel_rfl) _ _ (w.heap.size + 1 + 1 + 1) _ _ rfl (ld5H FIN.out.1 rfl) rfl) rfl ?_
    exact ⟨none, 0, rfl, Reads.none_, FIN.out.2⟩
  subst hE0
  rw [if_neg (by simp)] at hans
  rw [ans_ok hans]
  clear hans
  have cR := fun X => rResp42 200 [] Bt hd close X
  unfold RespPost rspV at cR
  rw [show respF [] = [textF] from rfl] at cR
  have CR := Lib.hid (show ∀ X, Calls Tryz.prog 50 #[.int .i64 200, .string ⟨#[]⟩, .string (bs Bt), .bool hd, .bool close] X fun e w' => ∃ A c, e = .returned (.agg #[.int .i64 200, .slice A 1 c, .string (bs Bt), .bool close, .bool hd]) ∧ Reads w' w'.heap.size 2 A 1 (fldsC [textF]) ∧ Below X.heap.size X w' from cR)
  clear cR
  go_enter Tryz.func20, Tryz.ntmps20
  go_wp2_with fail
  (with_reducible refine (CC.out).mono ?_); rintro e w1 ⟨rfl, g1⟩
  have KR1 := Lib.hid (KR.out.below g1 KR.out.lt)
  have KO1 := Lib.hid (KO.out.below g1 KO.out.lt)
  have KF1 := Lib.hid (KF.out.below g1 KF.out.lt)
  have KZ1 := Lib.hid (KZ.out.below g1 KZ.out.lt)
  have B1 := Lib.hid (BW.out.trans (g1.mono BW.out.size))
  clear g1 CC KR KO KF KZ BW
  have rc0 : w1.cell? ⟨w.heap.size, 0, none⟩ = some (.string (bs r.method)) := KR1.out.cell 0
  have rc1 : w1.cell? ⟨w.heap.size, 1, none⟩ = some (.string (bs r.path)) := KR1.out.cell 1
  have rc2 : w1.cell? ⟨w.heap.size, 2, none⟩ = some (.string (bs r.query)) := KR1.out.cell 2
  have rc3 : w1.cell? ⟨w.heap.size, 3, none⟩ = some (.string host) := KR1.out.cell 3
  have rc4 : w1.cell? ⟨w.heap.size, 4, none⟩ = some (.slice FA fn fc) := KR1.out.cell 4
  have rc5 : w1.cell? ⟨w.heap.size, 5, none⟩ = some (.string (bs r.body)) := KR1.out.cell 5
  have oc0 : w1.cell? ⟨w.heap.size + 1, 0, none⟩ = some (.int .i64 o.kind) := KO1.out.cell 0
  have oc1 : w1.cell? ⟨w.heap.size + 1, 1, none⟩ = some (.string o.sp) := KO1.out.cell 1
  have oc2 : w1.cell? ⟨w.heap.size + 1, 2, none⟩ = some (.string o.sq) := KO1.out.cell 2
  have oc3 : w1.cell? ⟨w.heap.size + 1, 3, none⟩ = some (.int .i64 o.code) := KO1.out.cell 3
  have oc4 : w1.cell? ⟨w.heap.size + 1, 4, none⟩ = some (.string (bs o.loc)) := KO1.out.cell 4
  have oc5 : w1.cell? ⟨w.heap.size + 1, 5, none⟩ = some (.int .i64 o.why) := KO1.out.cell 5
  have fc0 : w1.cell? ⟨w.heap.size + 1 + 1, 0, none⟩ = some (.bool f.ok) := KF1.out.cell 0
  have fc1 : w1.cell? ⟨w.heap.size + 1 + 1, 1, none⟩ = some (.slice S f.segs.length cs) := KF1.out.cell 1
  have fc2 : w1.cell? ⟨w.heap.size + 1 + 1, 2, none⟩ = some (.int .i64 f.kind) := KF1.out.cell 2
  have fc3 : w1.cell? ⟨w.heap.size + 1 + 1, 3, none⟩ = some (.string (bs f.text)) := KF1.out.cell 3
  have fc4 : w1.cell? ⟨w.heap.size + 1 + 1, 4, none⟩ = some (.slice N f.names.length cn) := KF1.out.cell 4
  have fc5 : w1.cell? ⟨w.heap.size + 1 + 1, 5, none⟩ = some (.slice V f.vals.length cv) := KF1.out.cell 5
  have fc6 : w1.cell? ⟨w.heap.size + 1 + 1, 6, none⟩ = some (.string (bs f.rest)) := KF1.out.cell 6
  have CB3 := Lib.hid (CB2.out w1 B1.out)
  go_wp2_with fail
  (with_reducible refine (CB3.out).mono ?_); rintro e w2 ⟨rfl, g2⟩
  have KZ2 := Lib.hid (KZ1.out.below g2 KZ1.out.lt)
  have B2 := Lib.hid (B1.out.trans (g2.mono B1.out.size))
  clear g2 KZ1 B1 CB2 CB3 rc0 rc1 rc2 rc3 rc4 rc5 oc0 oc1 oc2 oc3 oc4 oc5 fc0 fc1 fc2 fc3 fc4 fc5 fc6
  go_wp2_with fail
  (with_reducible refine (CR.out _).mono ?_); rintro e w3 ⟨A, c, rfl, r3, g3⟩
  have KZ3 := Lib.hid (KZ2.out.below g3 KZ2.out.lt)
  have B3 := Lib.hid (B2.out.trans (g3.mono B2.out.size))
  have FIN := Lib.hid (fin5N (w := w) r3 (by simp) KZ3.out B3.out (by omega) (.int .i64 200) (.slice A 1 c) (.string (bs Bt)) (.bool close) (.bool hd))
  unfold set5 at FIN
  have zq0 : w3.cell? ⟨w.heap.size + 1 + 1 + 1, 0, none⟩ = some (.int .i64 0) := KZ3.out.cell 0
  have zv0 := KZ3.out.frozen 0
  have zq1 : w3.cell? ⟨w.heap.size + 1 + 1 + 1, 1, none⟩ = some (.slice none 0 0) := KZ3.out.cell 1
  have zv1 := KZ3.out.frozen 1
  have zq2 : w3.cell? ⟨w.heap.size + 1 + 1 + 1, 2, none⟩ = some (.string ⟨#[]⟩) := KZ3.out.cell 2
  have zv2 := KZ3.out.frozen 2
  have zq3 : w3.cell? ⟨w.heap.size + 1 + 1 + 1, 3, none⟩ = some (.bool false) := KZ3.out.cell 3
  have zv3 := KZ3.out.frozen 3
  have zq4 : w3.cell? ⟨w.heap.size + 1 + 1 + 1, 4, none⟩ = some (.bool false) := KZ3.out.cell 4
  have zv4 := KZ3.out.frozen 4
  clear g3 r3
  go_wp2_with fail
  refine bodyPost_ret (results_cell_tmpH (p := 8) (t := 9) (ty := 24) (by kernel_rfl) _ _ (w.heap.size + 1 + 1 + 1) _ _ rfl (ld5H FIN.out.1 rfl) rfl) rfl ?_
  exact ⟨A, c, rfl, FIN.out.2.1, FIN.out.2.2⟩
end

section
open Go.RowKit

theorem strs_oneQ (l : List (List UInt8)) : ∀ u ∈ strs l, u.oneCell' = true := by
  intro u hu
  simp only [strs, List.mem_map] at hu
  obtain ⟨x, _, rfl⟩ := hu
  rfl
theorem own_leQ {w : World} {base base' size n : Nat} {e : TypeId} {v : Value} {xs : List Value} (h : w.ownsRow base e size v n xs) (hb : base' ≤ base) : w.ownsRow base' e size v n xs :=
  ⟨h.1, h.2.imp id fun ⟨g, cap, cur, e1, hg, r⟩ => ⟨g, cap, cur, e1, Nat.le_trans hb hg, r⟩⟩
theorem OwnTextsO (A : Option Addr) (n c : Nat) (xs : List (List UInt8)) (w : World) (hr : Reads w w.heap.size 1 A n (strs xs)) (hn : n ≤ 1000000) :
    Calls Tryz.prog 43 #[.slice A n c] w fun e w' => ∃ B d, e = .returned (.slice B n d) ∧ w'.ownsRow w.heap.size 9 1 (.slice B n d) n (strs xs) ∧ Below w.heap.size w w' := by
  obtain ⟨i0, hi, hz0, hz1, hz2⟩ := info_parts infoStrA
  have hown := World.ownsRow_made (base := w.heap.size) (e := 9) (size := 1) w #[] 0 (Nat.le_refl _) (Nat.zero_le _) rfl
  have hr2 := hr.alloc (Nat.le_refl _) (.cells #[] 9)
  have HO := Lib.hid hown
  have HR := Lib.hid hr2
  have HI := Lib.hid (And.intro hi (And.intro hz0 (And.intro hz1 hz2)))
  clear hi hz0 hz1 hz2 hown hr2
  obtain ⟨i1, i2, i3, i4⟩ := HI.out
  have hb1 : (0 + n) ≤ maxLen := by unfold maxLen; omega
  have hb2 : (0 + n) * 16 ≤ 140737488355328 := by omega
  have hrun := run_append_any (P := Tryz.prog) (w.alloc (.cells #[] 9)) w.heap.size 38 38 9 i0 (.string .empty) 1 16 Tryz.underlying38 i1 i2 i3 i4 rfl (by decide) _ 0 [] HO.out w.heap.size A n c (strs xs) HR.out (strs_oneQ xs) hb1 hb2 (by simp)
  obtain ⟨v', w', hrun, ho, hg, hor⟩ := hrun
  rw [List.nil_append, Nat.zero_add] at ho
  obtain ⟨B, d, rfl⟩ := own_slice ho
  have HRUN := Lib.hid hrun
  have HF := Lib.hid (And.intro ho hg)
  clear hrun ho hg hor i1 i2 i3 i4 hb1 hb2 hr
  go_enter Tryz.func43, Tryz.ntmps43
  go_wp2_with (at_builtin; refine wpList_append_run HRUN.out rfl _ _ rfl rfl rfl rfl ?_)
  go_ret
  refine ⟨B, d, rfl, HF.out.1, ?_⟩
  exact ((Below.refl _ w).alloc (Nat.le_refl _) _).grown HF.out.2 (by simp) (own_ge HO.out)
def OwnFPost (f : FoundP) (w : World) (e : Ending) (w' : World) : Prop :=
  ∃ (S N V : Option Addr) (cs cn cv : Nat), e = .returned (fndV f S N V cs cn cv) ∧ Reads w' w'.heap.size 1 S f.segs.length (strs f.segs) ∧ Reads w' w'.heap.size 1 N f.names.length (strs f.names) ∧ Reads w' w'.heap.size 1 V f.vals.length (strs f.vals) ∧ Below w.heap.size w w'
theorem own_set1 {base e size n g i : Nat} {W : World} {v : Value} {xs : List Value} (ho : W.ownsRow base e size v n xs) (hne : v.ownBlock ≠ some g) (u : Value) : (W.setCell ⟨g, i, none⟩ u).ownsRow base e size v n xs :=
  ho.kept (Lib.grownBy_setB (World.grownBy.refl W (some g)) i u) (.inr hne)
set_option maxRecDepth 100000 in
set_option maxHeartbeats 8000000 in
theorem pOwnFound (f : FoundP) (S N V : Option Addr) (cs cn cv : Nat) (w : World) (h1 : f.segs.length ≤ 1000000) (h2 : f.names.length ≤ 1000000) (h3 : f.vals.length ≤ 1000000)
    (hS : Reads w w.heap.size 1 S f.segs.length (strs f.segs)) (hN : Reads w w.heap.size 1 N f.names.length (strs f.names)) (hV : Reads w w.heap.size 1 V f.vals.length (strs f.vals)) :
    Calls Tryz.prog 14 #[fndV f S N V cs cn cv] w (OwnFPost f w) := by
  unfold fndV
  have bW : Below w.heap.size w ((w.alloc (.cells #[.bool f.ok, .slice S f.segs.length cs, .int .i64 f.kind, .string (bs f.text), .slice N f.names.length cn, .slice V f.vals.length cv, .string (bs f.rest)] 42)).alloc (.cells #[.bool false, .slice none 0 0, .int .i64 0, .string ⟨#[]⟩, .slice none 0 0, .slice none 0 0, .string ⟨#[]⟩] 42)) := ((Below.refl _ _).alloc (Nat.le_refl _) _).alloc (by simp) _
  have kF := (Blk.new w 42 #[.bool f.ok, .slice S f.segs.length cs, .int .i64 f.kind, .string (bs f.text), .slice N f.names.length cn, .slice V f.vals.length cv, .string (bs f.rest)]).alloc (.cells #[.bool false, .slice none 0 0, .int .i64 0, .string ⟨#[]⟩, .slice none 0 0, .slice none 0 0, .string ⟨#[]⟩] 42)
  have kZ := Blk.new (w.alloc (.cells #[.bool f.ok, .slice S f.segs.length cs, .int .i64 f.kind, .string (bs f.text), .slice N f.names.length cn, .slice V f.vals.length cv, .string (bs f.rest)] 42)) 42 #[.bool false, .slice none 0 0, .int .i64 0, .string ⟨#[]⟩, .slice none 0 0, .slice none 0 0, .string ⟨#[]⟩]
  rw [show (w.alloc (.cells #[.bool f.ok, .slice S f.segs.length cs, .int .i64 f.kind, .string (bs f.text), .slice N f.names.length cn, .slice V f.vals.length cv, .string (bs f.rest)] 42)).heap.size = w.heap.size + 1 by simp] at kZ
  have s0 : ((w.alloc (.cells #[.bool f.ok, .slice S f.segs.length cs, .int .i64 f.kind, .string (bs f.text), .slice N f.names.length cn, .slice V f.vals.length cv, .string (bs f.rest)] 42)).alloc (.cells #[.bool false, .slice none 0 0, .int .i64 0, .string ⟨#[]⟩, .slice none 0 0, .slice none 0 0, .string ⟨#[]⟩] 42)).heap.size = w.heap.size + 1 + 1 := by simp
  obtain ⟨W, hW⟩ : ∃ W, ((w.alloc (.cells #[.bool f.ok, .slice S f.segs.length cs, .int .i64 f.kind, .string (bs f.text), .slice N f.names.length cn, .slice V f.vals.length cv, .string (bs f.rest)] 42)).alloc (.cells #[.bool false, .slice none 0 0, .int .i64 0, .string ⟨#[]⟩, .slice none 0 0, .slice none 0 0, .string ⟨#[]⟩] 42)) = W := ⟨_, rfl⟩
  rw [hW] at bW kF kZ s0
  have CN := Lib.hid (show ∀ X, Below W.heap.size W X → Calls Tryz.prog 43 #[.slice N f.names.length cn] X fun e w' => ∃ B d, e = .returned (.slice B f.names.length d) ∧ w'.ownsRow W.heap.size 9 1 (.slice B f.names.length d) f.names.length (strs f.names) ∧ Below X.heap.size X w' from fun X hX => (OwnTextsO N f.names.length cn f.names X ((hN.below (bW.trans (hX.mono bW.size))).more (bW.trans (hX.mono bW.size)).size) h2).mono fun e w' ⟨B, d, he, ho, hb⟩ => ⟨B, d, he, own_leQ ho hX.size, hb⟩)
  have CV := Lib.hid (show ∀ X, Below W.heap.size W X → Calls Tryz.prog 43 #[.slice V f.vals.length cv] X fun e w' => ∃ B d, e = .returned (.slice B f.vals.length d) ∧ w'.ownsRow W.heap.size 9 1 (.slice B f.vals.length d) f.vals.length (strs f.vals) ∧ Below X.heap.size X w' from fun X hX => (OwnTextsO V f.vals.length cv f.vals X ((hV.below (bW.trans (hX.mono bW.size))).more (bW.trans (hX.mono bW.size)).size) h3).mono fun e w' ⟨B, d, he, ho, hb⟩ => ⟨B, d, he, own_leQ ho hX.size, hb⟩)
  have CS := Lib.hid (show ∀ X, Below w.heap.size w X → W.heap.size ≤ X.heap.size → Calls Tryz.prog 43 #[.slice S f.segs.length cs] X fun e w' => ∃ B d, e = .returned (.slice B f.segs.length d) ∧ w'.ownsRow W.heap.size 9 1 (.slice B f.segs.length d) f.segs.length (strs f.segs) ∧ Below X.heap.size X w' from fun X hX hs => (OwnTextsO S f.segs.length cs f.segs X ((hS.below hX).more hX.size) h1).mono fun e w' ⟨B, d, he, ho, hb⟩ => ⟨B, d, he, own_leQ ho hs, hb⟩)
  have CC := Lib.hid (show ∀ X, Below W.heap.size W X → X.cell? ⟨w.heap.size, 4, none⟩ = some (.slice N f.names.length cn) ∧ X.cell? ⟨w.heap.size, 5, none⟩ = some (.slice V f.vals.length cv) ∧ X.frozen? ⟨w.heap.size, 4, none⟩ = false ∧ X.frozen? ⟨w.heap.size, 5, none⟩ = false from fun X hX => ⟨(kF.below hX kF.lt).cell 4, (kF.below hX kF.lt).cell 5, (kF.below hX kF.lt).frozen 4, (kF.below hX kF.lt).frozen 5⟩)
  have KF := Lib.hid kF
  have KZ := Lib.hid kZ
  have BW := Lib.hid bW
  have S0 := Lib.hid s0
  have BD := Lib.hid ((Below.refl W.heap.size W).drew)
  have c4 : W.cell? ⟨w.heap.size, 4, none⟩ = some (.slice N f.names.length cn) := kF.cell 4
  have c5 : W.cell? ⟨w.heap.size, 5, none⟩ = some (.slice V f.vals.length cv) := kF.cell 5
  clear kF kZ bW s0 hS hN hV h1 h2 h3
  go_enter Tryz.func14, Tryz.ntmps14
  go_upto_region 1 with (fail)
  clear hW
  go_region_with (first
    | (go_at_call 43; (with_reducible refine (CN.out _ BD.out).mono ?_); rintro e va ⟨B1, d1, rfl, o1, ga⟩; have ha := BD.out.trans (ga.mono BD.out.size); obtain ⟨c4a, c5a, f4a, f5a⟩ := CC.out va ha)
    | (go_at_call 43; (with_reducible refine (CV.out _ BD.out).mono ?_); rintro e va ⟨B2, d2, rfl, o2, ga⟩; have ha := BD.out.trans (ga.mono BD.out.size); obtain ⟨c4a, c5a, f4a, f5a⟩ := CC.out va ha)
    | (go_at_call 43; (with_reducible refine (CN.out _ ha).mono ?_); rintro e vb ⟨B1, d1, rfl, O1, gb⟩; have hb := ha.trans (gb.mono ha.size); have O2 := own_below o2 gb; obtain ⟨c4b, c5b, f4b, f5b⟩ := CC.out vb hb)
    | (go_at_call 43; (with_reducible refine (CV.out _ ha).mono ?_); rintro e vb ⟨B2, d2, rfl, O2, gb⟩; have hb := ha.trans (gb.mono ha.size); have O1 := own_below o1 gb; obtain ⟨c4b, c5b, f4b, f5b⟩ := CC.out vb hb))
  all_goals (
    have kf := ((KF.out.below hb KF.out.lt).set_ 4 (.slice B1 f.names.length d1)).set_ 5 (.slice B2 f.vals.length d2)
    have ef : ((#[.bool f.ok, .slice S f.segs.length cs, .int .i64 f.kind, .string (bs f.text), .slice N f.names.length cn, .slice V f.vals.length cv, .string (bs f.rest)] : Array Value).setIfInBounds 4 (.slice B1 f.names.length d1)).setIfInBounds 5 (.slice B2 f.vals.length d2) = #[.bool f.ok, .slice S f.segs.length cs, .int .i64 f.kind, .string (bs f.text), .slice B1 f.names.length d1, .slice B2 f.vals.length d2, .string (bs f.rest)] := by simp
    rw [ef] at kf
    have nh : w.heap.size + 1 ≠ w.heap.size := by omega
    have kz := ((KZ.out.below hb KZ.out.lt).far (p := ⟨w.heap.size, 4, none⟩) nh (.slice B1 f.names.length d1)).far (p := ⟨w.heap.size, 5, none⟩) nh (.slice B2 f.vals.length d2)
    have n1 := own_blk_ne (e := 9) O1 (KF.out.below hb KF.out.lt) (by decide)
    have n2 := own_blk_ne (e := 9) O2 (KF.out.below hb KF.out.lt) (by decide)
    have P1 := Lib.hid (own_set1 (i := 5) (own_set1 (i := 4) O1 n1 (.slice B1 f.names.length d1)) n1 (.slice B2 f.vals.length d2))
    have P2 := Lib.hid (own_set1 (i := 5) (own_set1 (i := 4) O2 n2 (.slice B1 f.names.length d1)) n2 (.slice B2 f.vals.length d2))
    have GY := Lib.hid (((BW.out.trans (hb.mono BW.out.size)).setCell (p := ⟨w.heap.size, 4, none⟩) (Nat.le_refl _) (.slice B1 f.names.length d1)).setCell (p := ⟨w.heap.size, 5, none⟩) (Nat.le_refl _) (.slice B2 f.vals.length d2))
    have sY := (((Below.refl 0 vb).setCell (p := ⟨w.heap.size, 4, none⟩) (Nat.zero_le _) (.slice B1 f.names.length d1)).setCell (p := ⟨w.heap.size, 5, none⟩) (Nat.zero_le _) (.slice B2 f.vals.length d2)).size
    have SY := Lib.hid (Nat.le_trans hb.size sY)
    have KF2 := Lib.hid kf
    have KZ2 := Lib.hid kz
    clear kf ef nh kz n1 n2 O1 O2 sY hb gb ha ga c4a c5a f4a f5a c4b c5b f4b f5b c4 c5
    generalize (vb.setCell ⟨w.heap.size, 4, none⟩ (.slice B1 f.names.length d1)).setCell ⟨w.heap.size, 5, none⟩ (.slice B2 f.vals.length d2) = Y at KF2 KZ2 P1 P2 GY SY ⊢
    have y1 : Y.cell? ⟨w.heap.size, 1, none⟩ = some (.slice S f.segs.length cs) := KF2.out.cell 1
    have CS2 := Lib.hid (CS.out Y GY.out SY.out)
    go_wp2_with fail
    (with_reducible refine (CS2.out).mono ?_); rintro e w7 ⟨B3, d3, rfl, o3, g7⟩
    have k7 := KF2.out.below g7 KF2.out.lt
    have z7 := KZ2.out.below g7 KZ2.out.lt
    have x1 : w7.cell? ⟨w.heap.size, 1, none⟩ = some (.slice S f.segs.length cs) := k7.cell 1
    have xf := k7.frozen 1
    have k8 := k7.set_ 1 (.slice B3 f.segs.length d3)
    have e8 : (#[.bool f.ok, .slice S f.segs.length cs, .int .i64 f.kind, .string (bs f.text), .slice B1 f.names.length d1, .slice B2 f.vals.length d2, .string (bs f.rest)] : Array Value).setIfInBounds 1 (.slice B3 f.segs.length d3) = #[.bool f.ok, .slice B3 f.segs.length d3, .int .i64 f.kind, .string (bs f.text), .slice B1 f.names.length d1, .slice B2 f.vals.length d2, .string (bs f.rest)] := by simp
    rw [e8] at k8
    have z8 := z7.far (p := ⟨w.heap.size, 1, none⟩) (by show w.heap.size + 1 ≠ w.heap.size; omega) (.slice B3 f.segs.length d3)
    have q1 := own_below P1.out g7
    have q2 := own_below P2.out g7
    have r1 := own_set1 (i := 1) q1 (own_blk_ne (e := 9) q1 k7 (by decide)) (.slice B3 f.segs.length d3)
    have r2 := own_set1 (i := 1) q2 (own_blk_ne (e := 9) q2 k7 (by decide)) (.slice B3 f.segs.length d3)
    have r3 := own_set1 (i := 1) o3 (own_blk_ne (e := 9) o3 k7 (by decide)) (.slice B3 f.segs.length d3)
    have g8 := (GY.out.trans (g7.mono GY.out.size)).setCell (p := ⟨w.heap.size, 1, none⟩) (Nat.le_refl _) (.slice B3 f.segs.length d3)
    have a0 : (w7.setCell ⟨w.heap.size, 1, none⟩ (.slice B3 f.segs.length d3)).cell? ⟨w.heap.size, 0, none⟩ = some (.bool f.ok) := k8.cell 0
    have a1 : (w7.setCell ⟨w.heap.size, 1, none⟩ (.slice B3 f.segs.length d3)).cell? ⟨w.heap.size, 1, none⟩ = some (.slice B3 f.segs.length d3) := k8.cell 1
    have a2 : (w7.setCell ⟨w.heap.size, 1, none⟩ (.slice B3 f.segs.length d3)).cell? ⟨w.heap.size, 2, none⟩ = some (.int .i64 f.kind) := k8.cell 2
    have a3 : (w7.setCell ⟨w.heap.size, 1, none⟩ (.slice B3 f.segs.length d3)).cell? ⟨w.heap.size, 3, none⟩ = some (.string (bs f.text)) := k8.cell 3
    have a4 : (w7.setCell ⟨w.heap.size, 1, none⟩ (.slice B3 f.segs.length d3)).cell? ⟨w.heap.size, 4, none⟩ = some (.slice B1 f.names.length d1) := k8.cell 4
    have a5 : (w7.setCell ⟨w.heap.size, 1, none⟩ (.slice B3 f.segs.length d3)).cell? ⟨w.heap.size, 5, none⟩ = some (.slice B2 f.vals.length d2) := k8.cell 5
    have a6 : (w7.setCell ⟨w.heap.size, 1, none⟩ (.slice B3 f.segs.length d3)).cell? ⟨w.heap.size, 6, none⟩ = some (.string (bs f.rest)) := k8.cell 6
    have b0 : (w7.setCell ⟨w.heap.size, 1, none⟩ (.slice B3 f.segs.length d3)).cell? ⟨w.heap.size + 1, 0, none⟩ = some (.bool false) := z8.cell 0
    have bz0 := z8.frozen 0
    have b1 : (w7.setCell ⟨w.heap.size, 1, none⟩ (.slice B3 f.segs.length d3)).cell? ⟨w.heap.size + 1, 1, none⟩ = some (.slice none 0 0) := z8.cell 1
    have bz1 := z8.frozen 1
    have b2 : (w7.setCell ⟨w.heap.size, 1, none⟩ (.slice B3 f.segs.length d3)).cell? ⟨w.heap.size + 1, 2, none⟩ = some (.int .i64 0) := z8.cell 2
    have bz2 := z8.frozen 2
    have b3 : (w7.setCell ⟨w.heap.size, 1, none⟩ (.slice B3 f.segs.length d3)).cell? ⟨w.heap.size + 1, 3, none⟩ = some (.string ⟨#[]⟩) := z8.cell 3
    have bz3 := z8.frozen 3
    have b4 : (w7.setCell ⟨w.heap.size, 1, none⟩ (.slice B3 f.segs.length d3)).cell? ⟨w.heap.size + 1, 4, none⟩ = some (.slice none 0 0) := z8.cell 4
    have bz4 := z8.frozen 4
    have b5 : (w7.setCell ⟨w.heap.size, 1, none⟩ (.slice B3 f.segs.length d3)).cell? ⟨w.heap.size + 1, 5, none⟩ = some (.slice none 0 0) := z8.cell 5
    have bz5 := z8.frozen 5
    have b6 : (w7.setCell ⟨w.heap.size, 1, none⟩ (.slice B3 f.segs.length d3)).cell? ⟨w.heap.size + 1, 6, none⟩ = some (.string ⟨#[]⟩) := z8.cell 6
    have bz6 := z8.frozen 6
    have kR := (((((((z8).set_ 0 (.bool f.ok)).set_ 1 (.slice B3 f.segs.length d3)).set_ 2 (.int .i64 f.kind)).set_ 3 (.string (bs f.text))).set_ 4 (.slice B1 f.names.length d1)).set_ 5 (.slice B2 f.vals.length d2)).set_ 6 (.string (bs f.rest))
    have eR : ((((((((#[.bool false, .slice none 0 0, .int .i64 0, .string ⟨#[]⟩, .slice none 0 0, .slice none 0 0, .string ⟨#[]⟩] : Array Value)).setIfInBounds 0 (.bool f.ok)).setIfInBounds 1 (.slice B3 f.segs.length d3)).setIfInBounds 2 (.int .i64 f.kind)).setIfInBounds 3 (.string (bs f.text))).setIfInBounds 4 (.slice B1 f.names.length d1)).setIfInBounds 5 (.slice B2 f.vals.length d2)).setIfInBounds 6 (.string (bs f.rest)) = #[.bool f.ok, .slice B3 f.segs.length d3, .int .i64 f.kind, .string (bs f.text), .slice B1 f.names.length d1, .slice B2 f.vals.length d2, .string (bs f.rest)] := by simp
    rw [eR] at kR
    have nr1 := own_blk_ne (e := 9) r1 z8 (by decide)
    have rr1 := Reads.of_own (own_set1 (i := 6) (own_set1 (i := 5) (own_set1 (i := 4) (own_set1 (i := 3) (own_set1 (i := 2) (own_set1 (i := 1) (own_set1 (i := 0) r1 nr1 (.bool f.ok)) nr1 (.slice B3 f.segs.length d3)) nr1 (.int .i64 f.kind)) nr1 (.string (bs f.text))) nr1 (.slice B1 f.names.length d1)) nr1 (.slice B2 f.vals.length d2)) nr1 (.string (bs f.rest)))
    have nr2 := own_blk_ne (e := 9) r2 z8 (by decide)
    have rr2 := Reads.of_own (own_set1 (i := 6) (own_set1 (i := 5) (own_set1 (i := 4) (own_set1 (i := 3) (own_set1 (i := 2) (own_set1 (i := 1) (own_set1 (i := 0) r2 nr2 (.bool f.ok)) nr2 (.slice B3 f.segs.length d3)) nr2 (.int .i64 f.kind)) nr2 (.string (bs f.text))) nr2 (.slice B1 f.names.length d1)) nr2 (.slice B2 f.vals.length d2)) nr2 (.string (bs f.rest)))
    have nr3 := own_blk_ne (e := 9) r3 z8 (by decide)
    have rr3 := Reads.of_own (own_set1 (i := 6) (own_set1 (i := 5) (own_set1 (i := 4) (own_set1 (i := 3) (own_set1 (i := 2) (own_set1 (i := 1) (own_set1 (i := 0) r3 nr3 (.bool f.ok)) nr3 (.slice B3 f.segs.length d3)) nr3 (.int .i64 f.kind)) nr3 (.string (bs f.text))) nr3 (.slice B1 f.names.length d1)) nr3 (.slice B2 f.vals.length d2)) nr3 (.string (bs f.rest)))
    have gR := (((((((g8).setCell (p := ⟨w.heap.size + 1, 0, none⟩) (Nat.le_succ _) (.bool f.ok)).setCell (p := ⟨w.heap.size + 1, 1, none⟩) (Nat.le_succ _) (.slice B3 f.segs.length d3)).setCell (p := ⟨w.heap.size + 1, 2, none⟩) (Nat.le_succ _) (.int .i64 f.kind)).setCell (p := ⟨w.heap.size + 1, 3, none⟩) (Nat.le_succ _) (.string (bs f.text))).setCell (p := ⟨w.heap.size + 1, 4, none⟩) (Nat.le_succ _) (.slice B1 f.names.length d1)).setCell (p := ⟨w.heap.size + 1, 5, none⟩) (Nat.le_succ _) (.slice B2 f.vals.length d2)).setCell (p := ⟨w.heap.size + 1, 6, none⟩) (Nat.le_succ _) (.string (bs f.rest))
    have FIN := Lib.hid (And.intro kR (And.intro rr3 (And.intro rr1 (And.intro rr2 gR))))
    clear kR eR nr1 nr2 nr3 rr1 rr2 rr3 gR k8 e8 z8 q1 q2 r1 r2 r3 g8 k7 z7 o3 g7 KF2 KZ2 P1 P2 GY SY CS2 y1
    go_wp2_with fail
    refine bodyPost_ret (results_cellH (p := 2) (ty := 42) (by kernel_rfl) _ _ (w.heap.size + 1) _ rfl (ld7 FIN.out.1 rfl)) rfl ?_
    exact ⟨B3, B1, B2, d3, d1, d2, rfl, FIN.out.2.1, FIN.out.2.2.1, FIN.out.2.2.2.1, FIN.out.2.2.2.2⟩)
end

section
open Go.RowKit Go.WideShapes Go.ChangeShapes

section
open Go.Lib
theorem spaces_ofA {W : World} {laid : List (String × DataW Unit)} (h : laidMet Tryz.prog laid W)
    (h3 : ("strings.asciiSpace", Rows.laid_strings_asciiSpace) ∈ laid) (h4 : ("unicode/utf8.first", Rows.laid_unicode_utf8_first) ∈ laid) (h5 : ("unicode/utf8.acceptRanges", Rows.laid_unicode_utf8_acceptRanges) ∈ laid) (h6 : ("unicode.White_Space", Rows.laid_unicode_White_Space) ∈ laid) : Spaces W :=
  ⟨tabIs_of_reads gAsc gAscType Tryz.underlying145 Tryz.underlying5 cells_u8 cells_a256 (by rw [ascData]; exact Lib.laidMet.reads h h3),
    utf8Tabs_of_reads { Tryz.lays163 with } u8X (by rw [firstDataR]; exact Lib.laidMet.reads h h4) (by rw [acceptDataR]; exact Lib.laidMet.reads h h5),
    whiteTab_of_reads { Tryz.lays163 with } whiteX (by rw [whiteDataR]; exact Lib.laidMet.reads h h6)⟩
end
section
variable {H : Type} {enc : TypeId × Value → H}
set_option maxRecDepth 100000 in
theorem open_out {W : World} {base : Nat} {v : Value} {d : DataW H} {p : List MemPlace} (hval : Value.okWide Tryz.prog W .any base 37 v) (h : DataW.Trod enc Tryz.prog W 0 (fun _ => true) true 37 v d p) :
    ∃ o : OutP, v = outV o ∧ o.loc.length ≤ 9223372036854775807 := by
  have ce : Tryz.prog.cellsOf 37 = 6 := by kernel_rfl
  have c1 : Tryz.prog.cellsOf 3 = 1 := by kernel_rfl
  have c2 : Tryz.prog.cellsOf 35 = 2 := by kernel_rfl
  have c3 : Tryz.prog.cellsOf 9 = 1 := by kernel_rfl
  have c4 : Tryz.prog.cellsOf 27 = 1 := by kernel_rfl
  obtain ⟨cs, rfl, hsz⟩ := okWide_struct Tryz.underlying37 hval
  rw [ce] at hsz
  obtain ⟨fuel, hf⟩ := h
  obtain ⟨xs, k, hk, hxy, _, hxl, hf2⟩ := DataW.trod_struct Tryz.underlying37 hf
  obtain ⟨l⟩ := cs
  match xs, hxl, l, hsz, hf, hf2 with
  | [y0, y1, y2, y3, y4], _, [v0, v1, v2, v3, v4, v5], _, _, hf2 =>
    have g0 := hf2 0 _ rfl
    have g1 := hf2 1 _ rfl
    have g2 := hf2 2 _ rfl
    have g3 := hf2 3 _ rfl
    have g4 := hf2 4 _ rfl
    simp [Value.cells, c1, c2, c3, c4] at g0 g1 g2 g3 g4
    obtain ⟨kk, q0, _, _⟩ := DataW.trod_int Tryz.underlying3 g0
    obtain ⟨ys, n, hn, _, _, hyl, hr2⟩ := DataW.trod_struct Tryz.underlying35 g1
    match ys, hyl, hr2 with
    | [u0, u1], _, hr2 =>
      have r0 := hr2 0 _ rfl
      have r1 := hr2 1 _ rfl
      simp [c3] at r0 r1
      obtain ⟨sp, q1, _, _⟩ := DataW.trod_string Tryz.underlying9 r0
      obtain ⟨sq, q2, _, _⟩ := DataW.trod_string Tryz.underlying9 r1
      obtain ⟨cc, q3, _, _⟩ := DataW.trod_int Tryz.underlying3 g2
      obtain ⟨lo, q4, _, b4⟩ := DataW.trod_string Tryz.underlying9 g3
      obtain ⟨wy, q5, _, _⟩ := DataW.trod_int Tryz.underlying27 g4
      simp only [List.cons.injEq, and_true] at q0 q1 q2 q3 q4 q5
      subst q0 q1 q2 q3 q4 q5
      unfold maxLen at b4
      exact ⟨⟨kk, sp, sq, cc, lo.data.toList, wy⟩, rfl, by rw [size_l]; exact b4⟩
end
end

section
open Go.RowKit

theorem ans_flds (r : ReqP) (k c : Int) (loc : List UInt8) (f : FoundP) (close : Bool) : (answerT r k c loc f close).1.flds.length ≤ 2 := by
  unfold answerT
  split
  · simp [noR]
  · split
    · split <;> simp [noR]
    · split
      · split <;> simp [noR]
      · simp
theorem listSelf (l : List (List UInt8)) : (l == l) = true := by simp
theorem SameT (A B : Option Addr) (n m c d : Nat) (xs : List (List UInt8)) (w : World) (hr : Reads w w.heap.size 1 A n (strs xs)) (ht : Reads w w.heap.size 1 B m (strs xs)) (hn : n ≤ 1000000) (hm : m ≤ 1000000) :
    Calls Tryz.prog 22 #[.slice A n c, .slice B m d] w fun e w' => e = .returned (.bool true) ∧ Below w.heap.size w w' :=
  (SameTexts_any A B n m c d xs xs w hr ht hn hm).mono fun e w' ⟨he, k, hk⟩ => ⟨by rw [he, listSelf], by rw [hk]; exact below_drewN (Below.refl _ _) k⟩
set_option maxRecDepth 100000 in
set_option maxHeartbeats 16000000 in
theorem HandlerAnswers_true (f : FoundP) (r : ReqP) (o : OutP) (S N V FA : Option Addr) (cs cn cv fn fc : Nat) (host : ByteArray) (close : Bool) (w : World) (hf1 : f.segs.length ≤ 9223372036854775807) (hf2 : f.names.length ≤ 9223372036854775807) (hf3 : f.vals.length ≤ 9223372036854775807) (hlo : o.loc.length ≤ 9223372036854775807)
    (hS : Reads w w.heap.size 1 S f.segs.length (strs f.segs)) (hN : Reads w w.heap.size 1 N f.names.length (strs f.names)) (hV : Reads w w.heap.size 1 V f.vals.length (strs f.vals)) (hT : Tab42 w) (hSp : Spaces w) :
    Calls Tryz.prog 4 #[reqV r host FA fn fc, outV o, fndV f S N V cs cn cv, .bool close] w fun e w' => e = .returned (.bool true) ∧ Below w.heap.size w w' := by
  have HT := Lib.hid (show ∀ X, Below w.heap.size w X → Tab42 X ∧ Spaces X from fun X hX => ⟨hT.below hX, hSp.below hX⟩)
  have HRD := Lib.hid (show ∀ X, Below w.heap.size w X → Reads X X.heap.size 1 S f.segs.length (strs f.segs) ∧ Reads X X.heap.size 1 N f.names.length (strs f.names) ∧ Reads X X.heap.size 1 V f.vals.length (strs f.vals) from fun X hX => ⟨(hS.below hX).more hX.size, (hN.below hX).more hX.size, (hV.below hX).more hX.size⟩)
  have AW := Lib.hid (fun X (hX : Below w.heap.size w X) => awake42 X (hT.below hX))
  have bW : Below w.heap.size w (((w.alloc (.cells #[.string (bs r.method), .string (bs r.path), .string (bs r.query), .string host, .slice FA fn fc, .string (bs r.body)] 33)).alloc (.cells #[.int .i64 o.kind, .string o.sp, .string o.sq, .int .i64 o.code, .string (bs o.loc), .int .i64 o.why] 37)).alloc (.cells #[.bool f.ok, .slice S f.segs.length cs, .int .i64 f.kind, .string (bs f.text), .slice N f.names.length cn, .slice V f.vals.length cv, .string (bs f.rest)] 42)) := (((Below.refl _ _).alloc (Nat.le_refl _) _).alloc (by simp) _).alloc (by simp; omega) _
  have KR := Lib.hid (show Blk (((w.alloc (.cells #[.string (bs r.method), .string (bs r.path), .string (bs r.query), .string host, .slice FA fn fc, .string (bs r.body)] 33)).alloc (.cells #[.int .i64 o.kind, .string o.sp, .string o.sq, .int .i64 o.code, .string (bs o.loc), .int .i64 o.why] 37)).alloc (.cells #[.bool f.ok, .slice S f.segs.length cs, .int .i64 f.kind, .string (bs f.text), .slice N f.names.length cn, .slice V f.vals.length cv, .string (bs f.rest)] 42)) (w.heap.size) 33 #[.string (bs r.method), .string (bs r.path), .string (bs r.query), .string host, .slice FA fn fc, .string (bs r.body)] from by
    have := ((Blk.new w 33 #[.string (bs r.method), .string (bs r.path), .string (bs r.query), .string host, .slice FA fn fc, .string (bs r.body)]).alloc (.cells #[.int .i64 o.kind, .string o.sp, .string o.sq, .int .i64 o.code, .string (bs o.loc), .int .i64 o.why] 37)).alloc (.cells #[.bool f.ok, .slice S f.segs.length cs, .int .i64 f.kind, .string (bs f.text), .slice N f.names.length cn, .slice V f.vals.length cv, .string (bs f.rest)] 42)
    exact this)
  have KO := Lib.hid (show Blk (((w.alloc (.cells #[.string (bs r.method), .string (bs r.path), .string (bs r.query), .string host, .slice FA fn fc, .string (bs r.body)] 33)).alloc (.cells #[.int .i64 o.kind, .string o.sp, .string o.sq, .int .i64 o.code, .string (bs o.loc), .int .i64 o.why] 37)).alloc (.cells #[.bool f.ok, .slice S f.segs.length cs, .int .i64 f.kind, .string (bs f.text), .slice N f.names.length cn, .slice V f.vals.length cv, .string (bs f.rest)] 42)) (w.heap.size + 1) 37 #[.int .i64 o.kind, .string o.sp, .string o.sq, .int .i64 o.code, .string (bs o.loc), .int .i64 o.why] from by
    have := (Blk.new (w.alloc (.cells #[.string (bs r.method), .string (bs r.path), .string (bs r.query), .string host, .slice FA fn fc, .string (bs r.body)] 33)) 37 #[.int .i64 o.kind, .string o.sp, .string o.sq, .int .i64 o.code, .string (bs o.loc), .int .i64 o.why]).alloc (.cells #[.bool f.ok, .slice S f.segs.length cs, .int .i64 f.kind, .string (bs f.text), .slice N f.names.length cn, .slice V f.vals.length cv, .string (bs f.rest)] 42)
    rw [show (w.alloc (.cells #[.string (bs r.method), .string (bs r.path), .string (bs r.query), .string host, .slice FA fn fc, .string (bs r.body)] 33)).heap.size = w.heap.size + 1 by simp] at this
    exact this)
  have KF := Lib.hid (show Blk (((w.alloc (.cells #[.string (bs r.method), .string (bs r.path), .string (bs r.query), .string host, .slice FA fn fc, .string (bs r.body)] 33)).alloc (.cells #[.int .i64 o.kind, .string o.sp, .string o.sq, .int .i64 o.code, .string (bs o.loc), .int .i64 o.why] 37)).alloc (.cells #[.bool f.ok, .slice S f.segs.length cs, .int .i64 f.kind, .string (bs f.text), .slice N f.names.length cn, .slice V f.vals.length cv, .string (bs f.rest)] 42)) (w.heap.size + 1 + 1) 42 #[.bool f.ok, .slice S f.segs.length cs, .int .i64 f.kind, .string (bs f.text), .slice N f.names.length cn, .slice V f.vals.length cv, .string (bs f.rest)] from by
    have := Blk.new ((w.alloc (.cells #[.string (bs r.method), .string (bs r.path), .string (bs r.query), .string host, .slice FA fn fc, .string (bs r.body)] 33)).alloc (.cells #[.int .i64 o.kind, .string o.sp, .string o.sq, .int .i64 o.code, .string (bs o.loc), .int .i64 o.why] 37)) 42 #[.bool f.ok, .slice S f.segs.length cs, .int .i64 f.kind, .string (bs f.text), .slice N f.names.length cn, .slice V f.vals.length cv, .string (bs f.rest)]
    rw [show ((w.alloc (.cells #[.string (bs r.method), .string (bs r.path), .string (bs r.query), .string host, .slice FA fn fc, .string (bs r.body)] 33)).alloc (.cells #[.int .i64 o.kind, .string o.sp, .string o.sq, .int .i64 o.code, .string (bs o.loc), .int .i64 o.why] 37)).heap.size = w.heap.size + 1 + 1 by simp] at this
    exact this)
  have cL := pLight42 f r S N V FA cs cn cv fn fc host (((w.alloc (.cells #[.string (bs r.method), .string (bs r.path), .string (bs r.query), .string host, .slice FA fn fc, .string (bs r.body)] 33)).alloc (.cells #[.int .i64 o.kind, .string o.sp, .string o.sq, .int .i64 o.code, .string (bs o.loc), .int .i64 o.why] 37)).alloc (.cells #[.bool f.ok, .slice S f.segs.length cs, .int .i64 f.kind, .string (bs f.text), .slice N f.names.length cn, .slice V f.vals.length cv, .string (bs f.rest)] 42)) hf1 hf2 hf3 (HRD.out _ bW).1 (HRD.out _ bW).2.1 (HRD.out _ bW).2.2
  unfold reqV outV fndV at *
  have CL := Lib.hid cL
  have BW := Lib.hid bW
  have zl := bs_size o.loc
  clear cL bW hS hN hV hT hSp hf1 hf2 hf3
  go_enter Tryz.func4, Tryz.ntmps4
  go_upto_region 1 with (fail)
  generalize (((w.alloc (.cells #[.string (bs r.method), .string (bs r.path), .string (bs r.query), .string host, .slice FA fn fc, .string (bs r.body)] 33)).alloc (.cells #[.int .i64 o.kind, .string o.sp, .string o.sq, .int .i64 o.code, .string (bs o.loc), .int .i64 o.why] 37)).alloc (.cells #[.bool f.ok, .slice S f.segs.length cs, .int .i64 f.kind, .string (bs f.text), .slice N f.names.length cn, .slice V f.vals.length cv, .string (bs f.rest)] 42)) = W at KR KO KF BW CL ⊢
  have rc0 : W.cell? ⟨w.heap.size, 0, none⟩ = some (.string (bs r.method)) := KR.out.cell 0
  have rc1 : W.cell? ⟨w.heap.size, 1, none⟩ = some (.string (bs r.path)) := KR.out.cell 1
  have rc2 : W.cell? ⟨w.heap.size, 2, none⟩ = some (.string (bs r.query)) := KR.out.cell 2
  have rc3 : W.cell? ⟨w.heap.size, 3, none⟩ = some (.string host) := KR.out.cell 3
  have rc4 : W.cell? ⟨w.heap.size, 4, none⟩ = some (.slice FA fn fc) := KR.out.cell 4
  have rc5 : W.cell? ⟨w.heap.size, 5, none⟩ = some (.string (bs r.body)) := KR.out.cell 5
  have fc0 : W.cell? ⟨w.heap.size + 1 + 1, 0, none⟩ = some (.bool f.ok) := KF.out.cell 0
  have fc1 : W.cell? ⟨w.heap.size + 1 + 1, 1, none⟩ = some (.slice S f.segs.length cs) := KF.out.cell 1
  have fc2 : W.cell? ⟨w.heap.size + 1 + 1, 2, none⟩ = some (.int .i64 f.kind) := KF.out.cell 2
  have fc3 : W.cell? ⟨w.heap.size + 1 + 1, 3, none⟩ = some (.string (bs f.text)) := KF.out.cell 3
  have fc4 : W.cell? ⟨w.heap.size + 1 + 1, 4, none⟩ = some (.slice N f.names.length cn) := KF.out.cell 4
  have fc5 : W.cell? ⟨w.heap.size + 1 + 1, 5, none⟩ = some (.slice V f.vals.length cv) := KF.out.cell 5
  have fc6 : W.cell? ⟨w.heap.size + 1 + 1, 6, none⟩ = some (.string (bs f.rest)) := KF.out.cell 6
  go_wp2_with fail
  (with_reducible refine (CL.out).mono ?_); rintro e w1 ⟨lb, rfl, hlb, g1⟩
  have G1 := Lib.hid (BW.out.trans (g1.mono BW.out.size))
  have KR1 := Lib.hid (KR.out.below g1 KR.out.lt)
  have KO1 := Lib.hid (KO.out.below g1 KO.out.lt)
  have KF1 := Lib.hid (KF.out.below g1 KF.out.lt)
  have CA := Lib.hid (AW.out w1 G1.out)
  clear g1 CL KR KO KF BW rc0 rc1 rc2 rc3 rc4 rc5 fc0 fc1 fc2 fc3 fc4 fc5 fc6
  have oc4 : w1.cell? ⟨w.heap.size + 1, 4, none⟩ = some (.string (bs o.loc)) := KO1.out.cell 4
  cases lb with
  | false =>
    clear hlb
    go_wp2_with fail
    (with_reducible refine (CA.out).mono ?_); rintro e w2 ⟨rfl, g2⟩
    go_wp2_with fail
    go_ret
    exact ⟨rfl, G1.out.trans (g2.mono G1.out.size)⟩
  | true =>
    have HL := Lib.hid (hlb rfl)
    clear hlb
    by_cases h11 : 1100 < o.loc.length
    · have i11 : (1100 : Int) < (o.loc.length : Int) := by omega
      go_wp2_with fail
      (with_reducible refine (CA.out).mono ?_); rintro e w2 ⟨rfl, g2⟩
      go_wp2_with fail
      go_ret
      exact ⟨rfl, G1.out.trans (g2.mono G1.out.size)⟩
    have i11 : ¬ (1100 : Int) < (o.loc.length : Int) := by omega
    have hlo2 : o.loc.length ≤ 100000 := by omega
    have HLO := Lib.hid hlo2
    have HFK := Lib.hid HL.out.fok
    have cO := pOwnFound f S N V cs cn cv w1 (by have := HL.out.segs; omega) (by have := HL.out.names; omega) (by have := HL.out.vals; omega) (HRD.out w1 G1.out).1 (HRD.out w1 G1.out).2.1 (HRD.out w1 G1.out).2.2
    unfold OwnFPost fndV at cO
    have CO := Lib.hid cO
    clear cO h11 hlo2 CA
    have fc0 : w1.cell? ⟨w.heap.size + 1 + 1, 0, none⟩ = some (.bool f.ok) := KF1.out.cell 0
    have fc1 : w1.cell? ⟨w.heap.size + 1 + 1, 1, none⟩ = some (.slice S f.segs.length cs) := KF1.out.cell 1
    have fc2 : w1.cell? ⟨w.heap.size + 1 + 1, 2, none⟩ = some (.int .i64 f.kind) := KF1.out.cell 2
    have fc3 : w1.cell? ⟨w.heap.size + 1 + 1, 3, none⟩ = some (.string (bs f.text)) := KF1.out.cell 3
    have fc4 : w1.cell? ⟨w.heap.size + 1 + 1, 4, none⟩ = some (.slice N f.names.length cn) := KF1.out.cell 4
    have fc5 : w1.cell? ⟨w.heap.size + 1 + 1, 5, none⟩ = some (.slice V f.vals.length cv) := KF1.out.cell 5
    have fc6 : w1.cell? ⟨w.heap.size + 1 + 1, 6, none⟩ = some (.string (bs f.rest)) := KF1.out.cell 6
    go_wp2_with fail
    (with_reducible refine (CO.out).mono ?_); rintro e w2 ⟨S2, N2, V2, ds, dn, dv, rfl, rS, rN, rV, g2⟩
    have bX : Below w2.heap.size w2 (w2.alloc (.cells #[.bool f.ok, .slice S2 f.segs.length ds, .int .i64 f.kind, .string (bs f.text), .slice N2 f.names.length dn, .slice V2 f.vals.length dv, .string (bs f.rest)] 42)) := (Below.refl _ _).alloc (Nat.le_refl _) _
    have KR2 := Lib.hid ((KR1.out.below g2 KR1.out.lt).alloc (.cells #[.bool f.ok, .slice S2 f.segs.length ds, .int .i64 f.kind, .string (bs f.text), .slice N2 f.names.length dn, .slice V2 f.vals.length dv, .string (bs f.rest)] 42))
    have KO2 := Lib.hid ((KO1.out.below g2 KO1.out.lt).alloc (.cells #[.bool f.ok, .slice S2 f.segs.length ds, .int .i64 f.kind, .string (bs f.text), .slice N2 f.names.length dn, .slice V2 f.vals.length dv, .string (bs f.rest)] 42))
    have KF2 := Lib.hid ((KF1.out.below g2 KF1.out.lt).alloc (.cells #[.bool f.ok, .slice S2 f.segs.length ds, .int .i64 f.kind, .string (bs f.text), .slice N2 f.names.length dn, .slice V2 f.vals.length dv, .string (bs f.rest)] 42))
    have KH2 := Lib.hid (Blk.new w2 42 #[.bool f.ok, .slice S2 f.segs.length ds, .int .i64 f.kind, .string (bs f.text), .slice N2 f.names.length dn, .slice V2 f.vals.length dv, .string (bs f.rest)])
    have G2 := Lib.hid ((G1.out.trans (g2.mono G1.out.size)).trans (bX.mono (G1.out.trans (g2.mono G1.out.size)).size))
    have RS2 := Lib.hid ((rS.below bX).more bX.size)
    have RN2 := Lib.hid ((rN.below bX).more bX.size)
    have RV2 := Lib.hid ((rV.below bX).more bX.size)
    clear bX g2 rS rN rV CO KR1 KO1 KF1 G1 oc4 i11 zl fc0 fc1 fc2 fc3 fc4 fc5 fc6
    go_upto_region 4 with (fail)
    generalize (w2.alloc (.cells #[.bool f.ok, .slice S2 f.segs.length ds, .int .i64 f.kind, .string (bs f.text), .slice N2 f.names.length dn, .slice V2 f.vals.length dv, .string (bs f.rest)] 42)) = Z at KR2 KO2 KF2 KH2 G2 RS2 RN2 RV2 ⊢
    obtain ⟨C1, E1, hce⟩ : ∃ C1 E1, codeT r.method o.kind o.code f = (C1, E1) := ⟨_, _, rfl⟩
    have cP := pCodeH f r o S2 N2 V2 FA ds dn dv fn fc host Z HFK.out
    have cQ := fun X => rCode42 f r o S N V FA cs cn cv fn fc host X HFK.out
    rw [hce] at cP
    simp only [hce] at cQ
    unfold reqV outV fndV at cP cQ
    simp only at cP
    have CP := Lib.hid cP
    have CQ := Lib.hid cQ
    clear cP cQ hce
    have rc0 : Z.cell? ⟨w.heap.size, 0, none⟩ = some (.string (bs r.method)) := KR2.out.cell 0
    have rc1 : Z.cell? ⟨w.heap.size, 1, none⟩ = some (.string (bs r.path)) := KR2.out.cell 1
    have rc2 : Z.cell? ⟨w.heap.size, 2, none⟩ = some (.string (bs r.query)) := KR2.out.cell 2
    have rc3 : Z.cell? ⟨w.heap.size, 3, none⟩ = some (.string host) := KR2.out.cell 3
    have rc4 : Z.cell? ⟨w.heap.size, 4, none⟩ = some (.slice FA fn fc) := KR2.out.cell 4
    have rc5 : Z.cell? ⟨w.heap.size, 5, none⟩ = some (.string (bs r.body)) := KR2.out.cell 5
    have oc0 : Z.cell? ⟨w.heap.size + 1, 0, none⟩ = some (.int .i64 o.kind) := KO2.out.cell 0
    have oc1 : Z.cell? ⟨w.heap.size + 1, 1, none⟩ = some (.string o.sp) := KO2.out.cell 1
    have oc2 : Z.cell? ⟨w.heap.size + 1, 2, none⟩ = some (.string o.sq) := KO2.out.cell 2
    have oc3 : Z.cell? ⟨w.heap.size + 1, 3, none⟩ = some (.int .i64 o.code) := KO2.out.cell 3
    have oc4 : Z.cell? ⟨w.heap.size + 1, 4, none⟩ = some (.string (bs o.loc)) := KO2.out.cell 4
    have oc5 : Z.cell? ⟨w.heap.size + 1, 5, none⟩ = some (.int .i64 o.why) := KO2.out.cell 5
    have hc0 : Z.cell? ⟨w2.heap.size, 0, none⟩ = some (.bool f.ok) := KH2.out.cell 0
    have hc1 : Z.cell? ⟨w2.heap.size, 1, none⟩ = some (.slice S2 f.segs.length ds) := KH2.out.cell 1
    have hc2 : Z.cell? ⟨w2.heap.size, 2, none⟩ = some (.int .i64 f.kind) := KH2.out.cell 2
    have hc3 : Z.cell? ⟨w2.heap.size, 3, none⟩ = some (.string (bs f.text)) := KH2.out.cell 3
    have hc4 : Z.cell? ⟨w2.heap.size, 4, none⟩ = some (.slice N2 f.names.length dn) := KH2.out.cell 4
    have hc5 : Z.cell? ⟨w2.heap.size, 5, none⟩ = some (.slice V2 f.vals.length dv) := KH2.out.cell 5
    have hc6 : Z.cell? ⟨w2.heap.size, 6, none⟩ = some (.string (bs f.rest)) := KH2.out.cell 6
    go_wp2_with fail
    (with_reducible refine (CP.out).mono ?_); rintro e w3 ⟨rfl, g⟩
    have KR3 := Lib.hid (KR2.out.below g KR2.out.lt)
    have KO3 := Lib.hid (KO2.out.below g KO2.out.lt)
    have KF3 := Lib.hid (KF2.out.below g KF2.out.lt)
    have KH3 := Lib.hid (KH2.out.below g KH2.out.lt)
    have RS3 := Lib.hid ((RS2.out.below g).more g.size)
    have RN3 := Lib.hid ((RN2.out.below g).more g.size)
    have RV3 := Lib.hid ((RV2.out.below g).more g.size)
    have G3 := Lib.hid (G2.out.trans (g.mono G2.out.size))
    clear KR2 KO2 KF2 KH2 RS2 RN2 RV2 G2
    clear g CP rc0 rc1 rc2 rc3 rc4 rc5 oc0 oc1 oc2 oc3 oc4 oc5 hc0 hc1 hc2 hc3 hc4 hc5 hc6
    have rc0 : w3.cell? ⟨w.heap.size, 0, none⟩ = some (.string (bs r.method)) := KR3.out.cell 0
    have rc1 : w3.cell? ⟨w.heap.size, 1, none⟩ = some (.string (bs r.path)) := KR3.out.cell 1
    have rc2 : w3.cell? ⟨w.heap.size, 2, none⟩ = some (.string (bs r.query)) := KR3.out.cell 2
    have rc3 : w3.cell? ⟨w.heap.size, 3, none⟩ = some (.string host) := KR3.out.cell 3
    have rc4 : w3.cell? ⟨w.heap.size, 4, none⟩ = some (.slice FA fn fc) := KR3.out.cell 4
    have rc5 : w3.cell? ⟨w.heap.size, 5, none⟩ = some (.string (bs r.body)) := KR3.out.cell 5
    have oc0 : w3.cell? ⟨w.heap.size + 1, 0, none⟩ = some (.int .i64 o.kind) := KO3.out.cell 0
    have oc1 : w3.cell? ⟨w.heap.size + 1, 1, none⟩ = some (.string o.sp) := KO3.out.cell 1
    have oc2 : w3.cell? ⟨w.heap.size + 1, 2, none⟩ = some (.string o.sq) := KO3.out.cell 2
    have oc3 : w3.cell? ⟨w.heap.size + 1, 3, none⟩ = some (.int .i64 o.code) := KO3.out.cell 3
    have oc4 : w3.cell? ⟨w.heap.size + 1, 4, none⟩ = some (.string (bs o.loc)) := KO3.out.cell 4
    have oc5 : w3.cell? ⟨w.heap.size + 1, 5, none⟩ = some (.int .i64 o.why) := KO3.out.cell 5
    have fc0 : w3.cell? ⟨w.heap.size + 1 + 1, 0, none⟩ = some (.bool f.ok) := KF3.out.cell 0
    have fc1 : w3.cell? ⟨w.heap.size + 1 + 1, 1, none⟩ = some (.slice S f.segs.length cs) := KF3.out.cell 1
    have fc2 : w3.cell? ⟨w.heap.size + 1 + 1, 2, none⟩ = some (.int .i64 f.kind) := KF3.out.cell 2
    have fc3 : w3.cell? ⟨w.heap.size + 1 + 1, 3, none⟩ = some (.string (bs f.text)) := KF3.out.cell 3
    have fc4 : w3.cell? ⟨w.heap.size + 1 + 1, 4, none⟩ = some (.slice N f.names.length cn) := KF3.out.cell 4
    have fc5 : w3.cell? ⟨w.heap.size + 1 + 1, 5, none⟩ = some (.slice V f.vals.length cv) := KF3.out.cell 5
    have fc6 : w3.cell? ⟨w.heap.size + 1 + 1, 6, none⟩ = some (.string (bs f.rest)) := KF3.out.cell 6
    go_wp2_with fail
    (with_reducible refine (CQ.out _).mono ?_); rintro e w4 ⟨rfl, g⟩
    have KR4 := Lib.hid (KR3.out.below g KR3.out.lt)
    have KO4 := Lib.hid (KO3.out.below g KO3.out.lt)
    have KF4 := Lib.hid (KF3.out.below g KF3.out.lt)
    have KH4 := Lib.hid (KH3.out.below g KH3.out.lt)
    have RS4 := Lib.hid ((RS3.out.below g).more g.size)
    have RN4 := Lib.hid ((RN3.out.below g).more g.size)
    have RV4 := Lib.hid ((RV3.out.below g).more g.size)
    have G4 := Lib.hid (G3.out.trans (g.mono G3.out.size))
    clear KR3 KO3 KF3 KH3 RS3 RN3 RV3 G3
    clear g CQ rc0 rc1 rc2 rc3 rc4 rc5 oc0 oc1 oc2 oc3 oc4 oc5 fc0 fc1 fc2 fc3 fc4 fc5 fc6
    obtain ⟨E, hE⟩ : ∃ E, checkF f = E := ⟨_, rfl⟩
    have cA := fun X => pCheckF f S2 N2 V2 ds dn dv X HFK.out
    have cB := fun X => rCheckF f S N V cs cn cv X HFK.out
    rw [hE] at cA cB
    unfold fndV at cA cB
    have CA := Lib.hid cA
    have CB := Lib.hid cB
    clear cA cB hE
    have CC := Lib.hid (show ∀ X, Below w4.heap.size w4 X → ((X.cell? ⟨w2.heap.size, 0, none⟩ = some (.bool f.ok) ∧ X.cell? ⟨w2.heap.size, 1, none⟩ = some (.slice S2 f.segs.length ds) ∧ X.cell? ⟨w2.heap.size, 2, none⟩ = some (.int .i64 f.kind) ∧ X.cell? ⟨w2.heap.size, 3, none⟩ = some (.string (bs f.text)) ∧ X.cell? ⟨w2.heap.size, 4, none⟩ = some (.slice N2 f.names.length dn) ∧ X.cell? ⟨w2.heap.size, 5, none⟩ = some (.slice V2 f.vals.length dv) ∧ X.cell? ⟨w2.heap.size, 6, none⟩ = some (.string (bs f.rest))) ∧ (X.cell? ⟨w.heap.size + 1 + 1, 0, none⟩ = some (.bool f.ok) ∧ X.cell? ⟨w.heap.size + 1 + 1, 1, none⟩ = some (.slice S f.segs.length cs) ∧ X.cell? ⟨w.heap.size + 1 + 1, 2, none⟩ = some (.int .i64 f.kind) ∧ X.cell? ⟨w.heap.size + 1 + 1, 3, none⟩ = some (.string (bs f.text)) ∧ X.cell? ⟨w.heap.size + 1 + 1, 4, none⟩ = some (.slice N f.names.length cn) ∧ X.cell? ⟨w.heap.size + 1 + 1, 5, none⟩ = some (.slice V f.vals.length cv) ∧ X.cell? ⟨w.heap.size + 1 + 1, 6, none⟩ = some (.string (bs f.rest)))) from fun X hX => ⟨⟨(KH4.out.below hX KH4.out.lt).cell 0, (KH4.out.below hX KH4.out.lt).cell 1, (KH4.out.below hX KH4.out.lt).cell 2, (KH4.out.below hX KH4.out.lt).cell 3, (KH4.out.below hX KH4.out.lt).cell 4, (KH4.out.below hX KH4.out.lt).cell 5, (KH4.out.below hX KH4.out.lt).cell 6⟩, ⟨(KF4.out.below hX KF4.out.lt).cell 0, (KF4.out.below hX KF4.out.lt).cell 1, (KF4.out.below hX KF4.out.lt).cell 2, (KF4.out.below hX KF4.out.lt).cell 3, (KF4.out.below hX KF4.out.lt).cell 4, (KF4.out.below hX KF4.out.lt).cell 5, (KF4.out.below hX KF4.out.lt).cell 6⟩⟩)
    have BD := Lib.hid ((Below.refl w4.heap.size w4).drew)
    have S0 := CC.out w4 (Below.refl _ _)
    have e1 : (C1 != C1) = false := by simp
    have e2 : ((E1 : Int) != (E1 : Int)) = false := by simp
    have e3 : ((E : Int) != (E : Int)) = false := by simp
    go_wp2_with fail
    go_region_held3 (fun X => (X.cell? ⟨w2.heap.size, 0, none⟩ = some (.bool f.ok) ∧ X.cell? ⟨w2.heap.size, 1, none⟩ = some (.slice S2 f.segs.length ds) ∧ X.cell? ⟨w2.heap.size, 2, none⟩ = some (.int .i64 f.kind) ∧ X.cell? ⟨w2.heap.size, 3, none⟩ = some (.string (bs f.text)) ∧ X.cell? ⟨w2.heap.size, 4, none⟩ = some (.slice N2 f.names.length dn) ∧ X.cell? ⟨w2.heap.size, 5, none⟩ = some (.slice V2 f.vals.length dv) ∧ X.cell? ⟨w2.heap.size, 6, none⟩ = some (.string (bs f.rest))) ∧ (X.cell? ⟨w.heap.size + 1 + 1, 0, none⟩ = some (.bool f.ok) ∧ X.cell? ⟨w.heap.size + 1 + 1, 1, none⟩ = some (.slice S f.segs.length cs) ∧ X.cell? ⟨w.heap.size + 1 + 1, 2, none⟩ = some (.int .i64 f.kind) ∧ X.cell? ⟨w.heap.size + 1 + 1, 3, none⟩ = some (.string (bs f.text)) ∧ X.cell? ⟨w.heap.size + 1 + 1, 4, none⟩ = some (.slice N f.names.length cn) ∧ X.cell? ⟨w.heap.size + 1 + 1, 5, none⟩ = some (.slice V f.vals.length cv) ∧ X.cell? ⟨w.heap.size + 1 + 1, 6, none⟩ = some (.string (bs f.rest)))) (first | exact S0 | exact S1 | exact S2) (first
      | (go_at_call 17; (with_reducible refine (CA.out _).mono ?_); rintro e v1 ⟨rfl, ga⟩; have hv := BD.out.trans (ga.mono BD.out.size); have S1 := CC.out v1 hv)
      | (go_at_call 18; (with_reducible refine (CB.out _).mono ?_); rintro e v2 ⟨rfl, gb⟩; have hv2 := hv.trans (gb.mono hv.size); have S2 := CC.out v2 hv2))
    all_goals (
      have g := Lib.hid hv2
      have KR5 := Lib.hid (KR4.out.below g.out KR4.out.lt)
      have KO5 := Lib.hid (KO4.out.below g.out KO4.out.lt)
      have KF5 := Lib.hid (KF4.out.below g.out KF4.out.lt)
      have KH5 := Lib.hid (KH4.out.below g.out KH4.out.lt)
      have RS5 := Lib.hid ((RS4.out.below g.out).more g.out.size)
      have RN5 := Lib.hid ((RN4.out.below g.out).more g.out.size)
      have RV5 := Lib.hid ((RV4.out.below g.out).more g.out.size)
      have G5 := Lib.hid (G4.out.trans (g.out.mono G4.out.size))
      clear KR4 KO4 KF4 KH4 RS4 RN4 RV4 G4
      clear CA CB CC BD S0 e1 e2 e3
      try clear S1 S2
      try clear hv hv2
      try clear ga gb
      obtain ⟨RR, E3, hae⟩ : ∃ RR E3, answerT r o.kind o.code o.loc f close = (RR, E3) := ⟨_, _, rfl⟩
      have hFl0 := ans_flds r o.kind o.code o.loc f close
      rw [hae] at hFl0
      obtain ⟨C, FL, Bd, cl, hd⟩ := RR
      simp only at hFl0
      have T5 := HT.out v2 G5.out
      have cP := pAnswer f r o S2 N2 V2 FA ds dn dv fn fc host close v2 HL.out HLO.out RN5.out RV5.out T5.1 T5.2
      have cQ := fun X (hX : Below w.heap.size w X) => rAnswer42 f r o S N V FA cs cn cv fn fc host close X HL.out HLO.out (HRD.out X hX).2.1 (HRD.out X hX).2.2
      unfold AnsPost reqV outV fndV rspV at cP cQ
      simp only [hae] at cP cQ
      have CP := Lib.hid cP
      have CQ := Lib.hid cQ
      clear cP cQ hae T5
      have rc0 : v2.cell? ⟨w.heap.size, 0, none⟩ = some (.string (bs r.method)) := KR5.out.cell 0
      have rc1 : v2.cell? ⟨w.heap.size, 1, none⟩ = some (.string (bs r.path)) := KR5.out.cell 1
      have rc2 : v2.cell? ⟨w.heap.size, 2, none⟩ = some (.string (bs r.query)) := KR5.out.cell 2
      have rc3 : v2.cell? ⟨w.heap.size, 3, none⟩ = some (.string host) := KR5.out.cell 3
      have rc4 : v2.cell? ⟨w.heap.size, 4, none⟩ = some (.slice FA fn fc) := KR5.out.cell 4
      have rc5 : v2.cell? ⟨w.heap.size, 5, none⟩ = some (.string (bs r.body)) := KR5.out.cell 5
      have oc0 : v2.cell? ⟨w.heap.size + 1, 0, none⟩ = some (.int .i64 o.kind) := KO5.out.cell 0
      have oc1 : v2.cell? ⟨w.heap.size + 1, 1, none⟩ = some (.string o.sp) := KO5.out.cell 1
      have oc2 : v2.cell? ⟨w.heap.size + 1, 2, none⟩ = some (.string o.sq) := KO5.out.cell 2
      have oc3 : v2.cell? ⟨w.heap.size + 1, 3, none⟩ = some (.int .i64 o.code) := KO5.out.cell 3
      have oc4 : v2.cell? ⟨w.heap.size + 1, 4, none⟩ = some (.string (bs o.loc)) := KO5.out.cell 4
      have oc5 : v2.cell? ⟨w.heap.size + 1, 5, none⟩ = some (.int .i64 o.why) := KO5.out.cell 5
      have hc0 : v2.cell? ⟨w2.heap.size, 0, none⟩ = some (.bool f.ok) := KH5.out.cell 0
      have hc1 : v2.cell? ⟨w2.heap.size, 1, none⟩ = some (.slice S2 f.segs.length ds) := KH5.out.cell 1
      have hc2 : v2.cell? ⟨w2.heap.size, 2, none⟩ = some (.int .i64 f.kind) := KH5.out.cell 2
      have hc3 : v2.cell? ⟨w2.heap.size, 3, none⟩ = some (.string (bs f.text)) := KH5.out.cell 3
      have hc4 : v2.cell? ⟨w2.heap.size, 4, none⟩ = some (.slice N2 f.names.length dn) := KH5.out.cell 4
      have hc5 : v2.cell? ⟨w2.heap.size, 5, none⟩ = some (.slice V2 f.vals.length dv) := KH5.out.cell 5
      have hc6 : v2.cell? ⟨w2.heap.size, 6, none⟩ = some (.string (bs f.rest)) := KH5.out.cell 6
      go_wp2_with fail
      (with_reducible refine (CP.out).mono ?_); rintro e w6 ⟨A1, c1, rfl, ra, g⟩
      have bX : Below w6.heap.size w6 (w6.alloc (.cells #[.int .i64 C, .slice A1 FL.length c1, .string (bs Bd), .bool cl, .bool hd] 24)) := (Below.refl _ _).alloc (Nat.le_refl _) _
      have KR6 := Lib.hid ((KR5.out.below g KR5.out.lt).alloc (.cells #[.int .i64 C, .slice A1 FL.length c1, .string (bs Bd), .bool cl, .bool hd] 24))
      have KO6 := Lib.hid ((KO5.out.below g KO5.out.lt).alloc (.cells #[.int .i64 C, .slice A1 FL.length c1, .string (bs Bd), .bool cl, .bool hd] 24))
      have KF6 := Lib.hid ((KF5.out.below g KF5.out.lt).alloc (.cells #[.int .i64 C, .slice A1 FL.length c1, .string (bs Bd), .bool cl, .bool hd] 24))
      have KH6 := Lib.hid ((KH5.out.below g KH5.out.lt).alloc (.cells #[.int .i64 C, .slice A1 FL.length c1, .string (bs Bd), .bool cl, .bool hd] 24))
      have RS6 := Lib.hid ((((RS5.out.below g).more g.size).below bX).more bX.size)
      have RN6 := Lib.hid ((((RN5.out.below g).more g.size).below bX).more bX.size)
      have RV6 := Lib.hid ((((RV5.out.below g).more g.size).below bX).more bX.size)
      have G6 := Lib.hid ((G5.out.trans (g.mono G5.out.size)).trans (bX.mono (G5.out.trans (g.mono G5.out.size)).size))
      clear KR5 KO5 KF5 KH5 RS5 RN5 RV5 G5
      have KA6 := Lib.hid (Blk.new w6 24 #[.int .i64 C, .slice A1 FL.length c1, .string (bs Bd), .bool cl, .bool hd])
      have RA6 := Lib.hid ((ra.below bX).more bX.size)
      clear bX g ra CP rc0 rc1 rc2 rc3 rc4 rc5 oc0 oc1 oc2 oc3 oc4 oc5 hc0 hc1 hc2 hc3 hc4 hc5 hc6
      go_upto_region 9 with (fail)
      generalize (w6.alloc (.cells #[.int .i64 C, .slice A1 FL.length c1, .string (bs Bd), .bool cl, .bool hd] 24)) = Z6 at KR6 KO6 KF6 KH6 RS6 RN6 RV6 G6 KA6 RA6 ⊢
      have rc0 : Z6.cell? ⟨w.heap.size, 0, none⟩ = some (.string (bs r.method)) := KR6.out.cell 0
      have rc1 : Z6.cell? ⟨w.heap.size, 1, none⟩ = some (.string (bs r.path)) := KR6.out.cell 1
      have rc2 : Z6.cell? ⟨w.heap.size, 2, none⟩ = some (.string (bs r.query)) := KR6.out.cell 2
      have rc3 : Z6.cell? ⟨w.heap.size, 3, none⟩ = some (.string host) := KR6.out.cell 3
      have rc4 : Z6.cell? ⟨w.heap.size, 4, none⟩ = some (.slice FA fn fc) := KR6.out.cell 4
      have rc5 : Z6.cell? ⟨w.heap.size, 5, none⟩ = some (.string (bs r.body)) := KR6.out.cell 5
      have oc0 : Z6.cell? ⟨w.heap.size + 1, 0, none⟩ = some (.int .i64 o.kind) := KO6.out.cell 0
      have oc1 : Z6.cell? ⟨w.heap.size + 1, 1, none⟩ = some (.string o.sp) := KO6.out.cell 1
      have oc2 : Z6.cell? ⟨w.heap.size + 1, 2, none⟩ = some (.string o.sq) := KO6.out.cell 2
      have oc3 : Z6.cell? ⟨w.heap.size + 1, 3, none⟩ = some (.int .i64 o.code) := KO6.out.cell 3
      have oc4 : Z6.cell? ⟨w.heap.size + 1, 4, none⟩ = some (.string (bs o.loc)) := KO6.out.cell 4
      have oc5 : Z6.cell? ⟨w.heap.size + 1, 5, none⟩ = some (.int .i64 o.why) := KO6.out.cell 5
      have fc0 : Z6.cell? ⟨w.heap.size + 1 + 1, 0, none⟩ = some (.bool f.ok) := KF6.out.cell 0
      have fc1 : Z6.cell? ⟨w.heap.size + 1 + 1, 1, none⟩ = some (.slice S f.segs.length cs) := KF6.out.cell 1
      have fc2 : Z6.cell? ⟨w.heap.size + 1 + 1, 2, none⟩ = some (.int .i64 f.kind) := KF6.out.cell 2
      have fc3 : Z6.cell? ⟨w.heap.size + 1 + 1, 3, none⟩ = some (.string (bs f.text)) := KF6.out.cell 3
      have fc4 : Z6.cell? ⟨w.heap.size + 1 + 1, 4, none⟩ = some (.slice N f.names.length cn) := KF6.out.cell 4
      have fc5 : Z6.cell? ⟨w.heap.size + 1 + 1, 5, none⟩ = some (.slice V f.vals.length cv) := KF6.out.cell 5
      have fc6 : Z6.cell? ⟨w.heap.size + 1 + 1, 6, none⟩ = some (.string (bs f.rest)) := KF6.out.cell 6
      have CQ2 := Lib.hid (CQ.out Z6 G6.out)
      go_wp2_with fail
      (with_reducible refine (CQ2.out).mono ?_); rintro e w7 ⟨A2, c2, rfl, rb, g⟩
      have bX : Below w7.heap.size w7 (w7.alloc (.cells #[.int .i64 C, .slice A2 FL.length c2, .string (bs Bd), .bool cl, .bool hd] 24)) := (Below.refl _ _).alloc (Nat.le_refl _) _
      have RA7 := Lib.hid ((((RA6.out.below g).more g.size).below bX).more bX.size)
      have RB7 := Lib.hid ((rb.below bX).more bX.size)
      have KR7 := Lib.hid ((KR6.out.below g KR6.out.lt).alloc (.cells #[.int .i64 C, .slice A2 FL.length c2, .string (bs Bd), .bool cl, .bool hd] 24))
      have KO7 := Lib.hid ((KO6.out.below g KO6.out.lt).alloc (.cells #[.int .i64 C, .slice A2 FL.length c2, .string (bs Bd), .bool cl, .bool hd] 24))
      have KF7 := Lib.hid ((KF6.out.below g KF6.out.lt).alloc (.cells #[.int .i64 C, .slice A2 FL.length c2, .string (bs Bd), .bool cl, .bool hd] 24))
      have KH7 := Lib.hid ((KH6.out.below g KH6.out.lt).alloc (.cells #[.int .i64 C, .slice A2 FL.length c2, .string (bs Bd), .bool cl, .bool hd] 24))
      have KA7 := Lib.hid ((KA6.out.below g KA6.out.lt).alloc (.cells #[.int .i64 C, .slice A2 FL.length c2, .string (bs Bd), .bool cl, .bool hd] 24))
      have RS7 := Lib.hid ((((RS6.out.below g).more g.size).below bX).more bX.size)
      have RN7 := Lib.hid ((((RN6.out.below g).more g.size).below bX).more bX.size)
      have RV7 := Lib.hid ((((RV6.out.below g).more g.size).below bX).more bX.size)
      have G7 := Lib.hid ((G6.out.trans (g.mono G6.out.size)).trans (bX.mono (G6.out.trans (g.mono G6.out.size)).size))
      clear KR6 KO6 KF6 KH6 KA6 RS6 RN6 RV6 G6
      have KB7 := Lib.hid (Blk.new w7 24 #[.int .i64 C, .slice A2 FL.length c2, .string (bs Bd), .bool cl, .bool hd])
      clear bX g rb RA6 CQ CQ2 rc0 rc1 rc2 rc3 rc4 rc5 oc0 oc1 oc2 oc3 oc4 oc5 fc0 fc1 fc2 fc3 fc4 fc5 fc6
      go_upto_region 10 with (fail)
      generalize (w7.alloc (.cells #[.int .i64 C, .slice A2 FL.length c2, .string (bs Bd), .bool cl, .bool hd] 24)) = Z7 at KR7 KO7 KF7 KH7 RS7 RN7 RV7 G7 KA7 RA7 KB7 RB7 ⊢
      have a0 : Z7.cell? ⟨w6.heap.size, 0, none⟩ = some (.int .i64 C) := KA7.out.cell 0
      have a1 : Z7.cell? ⟨w6.heap.size, 1, none⟩ = some (.slice A1 FL.length c1) := KA7.out.cell 1
      have a2 : Z7.cell? ⟨w6.heap.size, 2, none⟩ = some (.string (bs Bd)) := KA7.out.cell 2
      have a3 : Z7.cell? ⟨w6.heap.size, 3, none⟩ = some (.bool cl) := KA7.out.cell 3
      have a4 : Z7.cell? ⟨w6.heap.size, 4, none⟩ = some (.bool hd) := KA7.out.cell 4
      have b0 : Z7.cell? ⟨w7.heap.size, 0, none⟩ = some (.int .i64 C) := KB7.out.cell 0
      have b1 : Z7.cell? ⟨w7.heap.size, 1, none⟩ = some (.slice A2 FL.length c2) := KB7.out.cell 1
      have b2 : Z7.cell? ⟨w7.heap.size, 2, none⟩ = some (.string (bs Bd)) := KB7.out.cell 2
      have b3 : Z7.cell? ⟨w7.heap.size, 3, none⟩ = some (.bool cl) := KB7.out.cell 3
      have b4 : Z7.cell? ⟨w7.heap.size, 4, none⟩ = some (.bool hd) := KB7.out.cell 4
      have hFl : FL.length ≤ 1000000 := by omega
      have cS := pSame42 ⟨C, FL, Bd, cl, hd⟩ A1 A2 FL.length FL.length c1 c2 Z7 RA7.out RB7.out hFl
      unfold rspV at cS
      simp only at cS
      have CS := Lib.hid cS
      have e4 : ((E3 : Int) == (E3 : Int)) = true := by simp
      clear cS
      go_wp2_with fail
      (with_reducible refine (CS.out).mono ?_); rintro e w8 ⟨rfl, g⟩
      clear RA7 RB7
      have KR8 := Lib.hid (KR7.out.below g KR7.out.lt)
      have KO8 := Lib.hid (KO7.out.below g KO7.out.lt)
      have KF8 := Lib.hid (KF7.out.below g KF7.out.lt)
      have KH8 := Lib.hid (KH7.out.below g KH7.out.lt)
      have RS8 := Lib.hid ((RS7.out.below g).more g.size)
      have RN8 := Lib.hid ((RN7.out.below g).more g.size)
      have RV8 := Lib.hid ((RV7.out.below g).more g.size)
      have G8 := Lib.hid (G7.out.trans (g.mono G7.out.size))
      clear KR7 KO7 KF7 KH7 RS7 RN7 RV7 G7
      clear g CS KA7 KB7 a0 a1 a2 a3 a4 b0 b1 b2 b3 b4
      have fx : w8.cell? ⟨w.heap.size + 1 + 1, 4, none⟩ = some (.slice N f.names.length cn) := KF8.out.cell 4
      have hx : w8.cell? ⟨w2.heap.size, 4, none⟩ = some (.slice N2 f.names.length dn) := KH8.out.cell 4
      have CT := Lib.hid (SameT N2 N f.names.length f.names.length dn cn f.names w8 RN8.out (HRD.out w8 G8.out).2.1 (by have := HL.out.names; omega) (by have := HL.out.names; omega))
      go_wp2_with fail
      (with_reducible refine (CT.out).mono ?_); rintro e w9 ⟨rfl, g⟩
      have KR9 := Lib.hid (KR8.out.below g KR8.out.lt)
      have KO9 := Lib.hid (KO8.out.below g KO8.out.lt)
      have KF9 := Lib.hid (KF8.out.below g KF8.out.lt)
      have KH9 := Lib.hid (KH8.out.below g KH8.out.lt)
      have RS9 := Lib.hid ((RS8.out.below g).more g.size)
      have RN9 := Lib.hid ((RN8.out.below g).more g.size)
      have RV9 := Lib.hid ((RV8.out.below g).more g.size)
      have G9 := Lib.hid (G8.out.trans (g.mono G8.out.size))
      clear KR8 KO8 KF8 KH8 RS8 RN8 RV8 G8
      clear g CT fx hx
      have fx : w9.cell? ⟨w.heap.size + 1 + 1, 5, none⟩ = some (.slice V f.vals.length cv) := KF9.out.cell 5
      have hx : w9.cell? ⟨w2.heap.size, 5, none⟩ = some (.slice V2 f.vals.length dv) := KH9.out.cell 5
      have CT := Lib.hid (SameT V2 V f.vals.length f.vals.length dv cv f.vals w9 RV9.out (HRD.out w9 G9.out).2.2 (by have := HL.out.vals; omega) (by have := HL.out.vals; omega))
      go_wp2_with fail
      (with_reducible refine (CT.out).mono ?_); rintro e w10 ⟨rfl, g⟩
      have KR10 := Lib.hid (KR9.out.below g KR9.out.lt)
      have KO10 := Lib.hid (KO9.out.below g KO9.out.lt)
      have KF10 := Lib.hid (KF9.out.below g KF9.out.lt)
      have KH10 := Lib.hid (KH9.out.below g KH9.out.lt)
      have RS10 := Lib.hid ((RS9.out.below g).more g.size)
      have RN10 := Lib.hid ((RN9.out.below g).more g.size)
      have RV10 := Lib.hid ((RV9.out.below g).more g.size)
      have G10 := Lib.hid (G9.out.trans (g.mono G9.out.size))
      clear KR9 KO9 KF9 KH9 RS9 RN9 RV9 G9
      clear g CT fx hx
      have fx : w10.cell? ⟨w.heap.size + 1 + 1, 1, none⟩ = some (.slice S f.segs.length cs) := KF10.out.cell 1
      have hx : w10.cell? ⟨w2.heap.size, 1, none⟩ = some (.slice S2 f.segs.length ds) := KH10.out.cell 1
      have CT := Lib.hid (SameT S2 S f.segs.length f.segs.length ds cs f.segs w10 RS10.out (HRD.out w10 G10.out).1 (by have := HL.out.segs; omega) (by have := HL.out.segs; omega))
      go_wp2_with fail
      (with_reducible refine (CT.out).mono ?_); rintro e w11 ⟨rfl, g⟩
      have KR11 := Lib.hid (KR10.out.below g KR10.out.lt)
      have KO11 := Lib.hid (KO10.out.below g KO10.out.lt)
      have KF11 := Lib.hid (KF10.out.below g KF10.out.lt)
      have KH11 := Lib.hid (KH10.out.below g KH10.out.lt)
      have RS11 := Lib.hid ((RS10.out.below g).more g.size)
      have RN11 := Lib.hid ((RN10.out.below g).more g.size)
      have RV11 := Lib.hid ((RV10.out.below g).more g.size)
      have G11 := Lib.hid (G10.out.trans (g.mono G10.out.size))
      clear KR10 KO10 KF10 KH10 RS10 RN10 RV10 G10
      clear g CT fx hx
      have CW := Lib.hid (AW.out w11 G11.out)
      go_wp2_with fail
      (with_reducible refine (CW.out).mono ?_); rintro e w12 ⟨rfl, g⟩
      go_wp2_with fail
      go_ret
      exact ⟨rfl, G11.out.trans (g.mono G11.out.size)⟩)
end
end Go.Proofs.YthhlnpfcpgfcfaaGreatDoor
