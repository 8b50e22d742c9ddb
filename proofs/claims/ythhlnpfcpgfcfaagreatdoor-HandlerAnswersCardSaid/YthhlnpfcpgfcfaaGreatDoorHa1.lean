/-
  Handlers: write and Plain of the program, Plain of the reference.
-/
import Derived.Test.YthhlnpfcpgfcfaaGreatDoorWl
import Derived.Test.YthhlnpfcpgfcfaaGreatDoorRs3
import Derived.Test.YthhlnpfcpgfcfaaGreatDoorHa0
import Derived.Deep.RegionHeld3
import Derived.Test.YthhlnpfcpgfcfaaGreatDoorRs4
import Derived.BigQuiet
namespace Go.Proofs.YthhlnpfcpgfcfaaGreatDoor
open Go.RowKit

set_option maxRecDepth 100000 in
set_option maxHeartbeats 4000000 in
theorem pWriteH (B b : Nat) (l : List UInt8) (A : Option Addr) (n c : Nat) (xs : List (List UInt8)) (w : World) (h : Lib.IsBuilder 68 5 B b (Lib.byteCells l) w) (hn : n = xs.length) (hp : PartsAt w A xs) (hn2 : n ≤ 1000) (hlen : l.length + xs.flatten.length ≤ 1000000) (hBw : B ≤ w.heap.size) :
    Calls Tryz.prog 68 #[.pointer (some ⟨b, 0, none⟩), .slice A n c] w fun e w' => e = .returned (.tuple #[]) ∧ Wrote 68 B b (l ++ xs.flatten) w w' := by
  subst hn
  have HP := Lib.hid hp
  have HI := Lib.hid h
  clear hp h
  go_enter Tryz.func68, Tryz.ntmps68
  go_wp2_with fail
  go_loopw [8] (fun i wr => ∃ k : Nat, i = .int .i64 k ∧ k ≤ xs.length ∧ Hid (Wrote 68 B b (l ++ (xs.take k).flatten) w wr)) (fun i _ => xs.length - (intOf i).toNat)
  case atStart => exact ⟨0, rfl, by omega, hide ⟨by simpa using HI.out, Below.refl _ _, KeptT.refl _⟩⟩
  case round =>
    obtain ⟨k, rfl, hk, hW⟩ := hrel
    rename World => wr
    have hBr : B ≤ wr.heap.size := by have := hW.out.2.1.size; omega
    by_cases hlt : k < xs.length
    · obtain ⟨gp, rfl, hc⟩ := (HP.out.kept hW.out.2.2 (by decide)).at_ k hlt
      have hf := flat_succ xs k hlt
      have hle := flat_take_le xs (k + 1)
      obtain ⟨x, hx⟩ : ∃ x, xs[k] = x := ⟨_, rfl⟩
      rw [hx] at hc hf
      rw [hf, List.length_append] at hle
      have CW := Lib.hid (writeT bty_builder B b (l ++ (xs.take k).flatten) (bs x) wr hW.out.1 (by rw [bs_size, List.length_append]; omega) hBr)
      have HF := Lib.hid hf
      clear hf hx hle
      go_wp2_with fail
      (with_reducible refine (CW.out).mono ?_); rintro e w2 ⟨⟨m, rfl⟩, hw2⟩
      go_wp2_with fail
      go_roundw
      case rel => exact ⟨k + 1, by go_num, by omega, hide (by rw [HF.out, ← List.append_assoc]; exact hW.out.trans hw2)⟩
      case measure => simp [intOf]; omega
    · obtain rfl : k = xs.length := by omega
      have hw := hW.out
      rw [List.take_length] at hw
      have HW := Lib.hid hw
      clear hw hW
      go_wp2_with fail
      first | go_end0 | (refine bodyPost_ret (results_none rfl _ _ _) rfl ?_)
      exact ⟨rfl, HW.out⟩
theorem write_at (w3 w5 : World) (l : List UInt8) (xs : List (List UInt8)) (cs : Array Value) (n c H : Nat) (hs : St 68 w3 l w5) (hcs : cs = (strs xs).toArray) (hn : n = xs.length) (hH : w5.heap.size = H) (hn2 : n ≤ 1000) (hlen : l.length + xs.flatten.length ≤ 1000000) :
    Calls Tryz.prog 68 #[.pointer (some ⟨w3.heap.size, 0, none⟩), .slice (some ⟨H, 0, none⟩) n c] (w5.alloc (.cells cs 9)) fun e w' => e = .returned (.tuple #[]) ∧ St 68 w3 (l ++ xs.flatten) w' := by
  subst hH hcs
  have h5 := hs.on ((Below.refl _ _).alloc (Nat.le_refl _) (.cells (strs xs).toArray 9))
  exact (pWriteH w3.heap.size w3.heap.size l (some ⟨w5.heap.size, 0, none⟩) n c xs _ h5.1 hn (.inr ⟨_, rfl, heap_alloc_new _ _⟩) hn2 hlen h5.2.size).mono fun e w' ⟨he, hw⟩ => ⟨he, h5.wrote hw⟩
theorem write_atD (w3 w5 : World) (l : List UInt8) (xs : List (List UInt8)) (cs : Array Value) (n c H : Nat) (hs : St 68 w3 l w5) (hcs : cs = (strs xs).toArray) (hn : n = xs.length) (hH : w5.heap.size = H) (hn2 : n ≤ 1000) (hlen : l.length + xs.flatten.length ≤ 1000000) :
    Calls Tryz.prog 68 #[.pointer (some ⟨w3.heap.size, 0, none⟩), .slice (some ⟨H, 0, none⟩) n c] (w5.alloc (.cells cs 9)).drew fun e w' => e = .returned (.tuple #[]) ∧ St 68 w3 (l ++ xs.flatten) w' := by
  subst hH hcs
  have h5 := hs.on (((Below.refl _ _).alloc (Nat.le_refl _) (.cells (strs xs).toArray 9)).drew)
  exact (pWriteH w3.heap.size w3.heap.size l (some ⟨w5.heap.size, 0, none⟩) n c xs _ h5.1 hn (.inr ⟨_, rfl, heap_alloc_new _ _⟩) hn2 hlen h5.2.size).mono fun e w' ⟨he, hw⟩ => ⟨he, h5.wrote hw⟩
/-- the digit of a byte's half -/
theorem hex_cut (n : Nat) (h : n < 16) : (⟨#[48, 49, 50, 51, 52, 53, 54, 55, 56, 57, 65, 66, 67, 68, 69, 70]⟩ : ByteArray).extract n (n + 1) = bs [hexU n] := by
  have : ∀ n : Fin 16, ((⟨#[48, 49, 50, 51, 52, 53, 54, 55, 56, 57, 65, 66, 67, 68, 69, 70]⟩ : ByteArray).extract n.val (n.val + 1)).data.toList = [hexU n.val] := by decide +kernel
  exact ba_ext (by rw [bs_list]; exact this ⟨n, h⟩)
theorem odd_int (c : UInt8) : (decide ((c.toNat : Int) < 32) || (c.toNat : Int) == 127 || (c.toNat : Int) == 37) = oddB c := by
  have : ∀ x : Fin 256, (decide (((UInt8.ofNat x.val).toNat : Int) < 32) || ((UInt8.ofNat x.val).toNat : Int) == 127 || ((UInt8.ofNat x.val).toNat : Int) == 37) = oddB (UInt8.ofNat x.val) := by decide +kernel
  have h := this ⟨c.toNat, c.toNat_lt⟩
  simpa using h
theorem plain_succ (s : List UInt8) (k : Nat) (hk : k < s.length) : plainT (s.take (k + 1)) = plainT (s.take k) ++ plainB s[k] := by
  rw [List.take_succ_eq_append_getElem hk, plainT_app]; simp [plainT]
theorem plain_take_le (s : List UInt8) (k : Nat) : (plainT (s.take k)).length ≤ 3 * s.length := by
  have := (plainT_len (s.take k)).2
  have h2 : (s.take k).length ≤ s.length := by simp; omega
  omega
set_option maxRecDepth 100000 in
set_option maxHeartbeats 8000000 in
theorem pPlain (s : List UInt8) (w : World) (hs : s.length ≤ 100000) :
    Calls Tryz.prog 41 #[.string (bs s)] w fun e w' => e = .returned (.string (bs (plainT s))) ∧ Below w.heap.size w w' := by
  have hz := bs_size s
  have S0 := Lib.hid (St.fresh 68 w)
  go_enter Tryz.func41, Tryz.ntmps41
  go_wp2_with fail
  go_loopw [8] (fun i wr => ∃ k : Nat, i = .int .i64 k ∧ k ≤ s.length ∧ Hid (St 68 w (plainT (s.take k)) wr)) (fun i _ => s.length - (intOf i).toNat)
  case atStart => exact ⟨0, rfl, by omega, by simpa [plainT] using S0⟩
  case round =>
    obtain ⟨k, rfl, hk, hS⟩ := hrel
    rename World => wr
    by_cases hlt : k < s.length
    · have hi : k < (bs s).size := by omega
      obtain ⟨c, hsu, hb⟩ : ∃ c, plainT (s.take (k + 1)) = plainT (s.take k) ++ plainB c ∧ (bs s)[k] = c := ⟨s[k], plain_succ s k hlt, rfl⟩
      have hln := plain_take_le s k
      have hc8 : c.toNat < 256 := c.toNat_lt
      have HSU := Lib.hid hsu
      by_cases ho : oddB c = true
      · have hpb : plainB c = [[37], [hexU (c.toNat / 16)], [hexU (c.toNat % 16)]].flatten := by unfold plainB; rw [if_pos ho]; rfl
        have x1 := hex_cut (c.toNat / 16) (by omega)
        have x2 := hex_cut (c.toNat % 16) (by omega)
        obtain ⟨a, ha⟩ : ∃ a, c.toNat / 16 = a := ⟨_, rfl⟩
        obtain ⟨b, hb'⟩ : ∃ b, c.toNat % 16 = b := ⟨_, rfl⟩
        rw [ha] at hpb x1
        rw [hb'] at hpb x2
        have hwa : IntKind.u8.wrap ((c.toNat : Int) / 16) = (a : Int) := by rw [IntKind.wrap_u8]; omega
        have htb : ((c.toNat : Int)).tmod 16 = (b : Int) := by rw [← hb']; exact (Int.ofNat_tmod c.toNat 16).symm
        have d0 : a < 16 := by omega
        have d0' : b < 16 := by omega
        have hwa1 : IntKind.u8.wrap ((a : Int) + 1) = (a : Int) + 1 := by rw [IntKind.wrap_u8]; omega
        have hwb1 : IntKind.u8.wrap ((b : Int) + 1) = (b : Int) + 1 := by rw [IntKind.wrap_u8]; omega
        have d1 : (0 : Int) ≤ (a : Int) := by omega
        have d2 : (a : Int) ≤ (a : Int) + 1 := by omega
        have d3 : (a : Int) + 1 ≤ 16 := by omega
        have d4 : (0 : Int) ≤ (b : Int) := by omega
        have d5 : (b : Int) ≤ (b : Int) + 1 := by omega
        have d6 : (b : Int) + 1 ≤ 16 := by omega
        have CW := Lib.hid (write_atD w wr (plainT (s.take k)) [[37], [hexU a], [hexU b]] #[.string ⟨#[37]⟩, .string (bs [hexU a]), .string (bs [hexU b])] 3 3 _ hS.out rfl rfl rfl (by omega) (by simp; omega))
        rw [← hpb] at CW
        rw [← hsu] at CW
        have hq : (c.toNat : Int) < 32 ∨ (32 ≤ (c.toNat : Int) ∧ ((c.toNat : Int) == 127) = true) ∨ (32 ≤ (c.toNat : Int) ∧ ((c.toNat : Int) == 127) = false ∧ ((c.toNat : Int) == 37) = true) := by
          have := odd_int c
          rw [ho] at this
          simp only [Bool.or_eq_true, decide_eq_true_eq, beq_iff_eq, beq_eq_false_iff_ne] at this ⊢
          omega
        clear ho hpb hsu ha hb'
        rcases hq with hq1 | ⟨hq1, hq2⟩ | ⟨hq1, hq2, hq3⟩
        all_goals (
          go_wp2_with fail
          go_region_held3 (fun _ => True) (trivial) (first
            | (go_at_call 68; (with_reducible refine (CW.out).mono ?_); rintro e w2 ⟨rfl, hS2⟩))
          go_wp2_with fail
          go_roundw
          case rel => exact ⟨k + 1, by go_num, by omega, hS2⟩
          case measure => simp [intOf]; omega)
      · have ho' : oddB c = false := by simpa using ho
        have hpb : plainB c = [c] := by unfold plainB; rw [ho']; rfl
        have hq : 32 ≤ (c.toNat : Int) ∧ ((c.toNat : Int) == 127) = false ∧ ((c.toNat : Int) == 37) = false := by
          have := odd_int c
          rw [ho'] at this
          simp only [Bool.or_eq_false_iff, decide_eq_false_iff_not] at this
          exact ⟨by omega, this.1.2, this.2⟩
        obtain ⟨hq1, hq2, hq3⟩ := hq
        have CB := Lib.hid (byteT bty_builder w.heap.size w.heap.size (plainT (s.take k)) c wr hS.out.1 (by omega) hS.out.2.size)
        rw [← hpb, ← hsu] at CB
        have HSS := Lib.hid (And.intro hS.out.2 hS.out.2.size)
        clear ho ho' hpb hsu
        go_wp2_with fail
        (with_reducible refine (CB.out).mono ?_); rintro e w2 ⟨rfl, hI2, hb2, hk2⟩
        have hS2 : St 68 w (plainT (s.take (k + 1))) w2 := ⟨hI2, HSS.out.1.trans hb2⟩
        go_wp2_with fail
        go_roundw
        case rel => exact ⟨k + 1, by go_num, by omega, hS2⟩
        case measure => simp [intOf]; omega
    · obtain rfl : k = s.length := by omega
      have hw := hS.out
      rw [List.take_length] at hw
      have CR := Lib.hid (Tryz.Builder_String_any w.heap.size w.heap.size (plainT s) wr hw.1 hw.2.size)
      have HW := Lib.hid hw.2
      clear hw hS
      go_wp2_with fail
      (with_reducible refine (CR.out).mono ?_); rintro e w2 ⟨rfl, g2⟩
      go_wp2_with fail
      go_ret
      exact ⟨rfl, HW.out.trans g2⟩
set_option maxRecDepth 100000 in
set_option maxHeartbeats 8000000 in
theorem rPlain (s : List UInt8) (w : World) (hs : s.length ≤ 100000) :
    Calls Tryz.prog 80 #[.string (bs s)] w fun e w' => e = .returned (.string (bs (plainT s))) ∧ Below w.heap.size w w' := by
  have hz := bs_size s
  go_enter Tryz.func80, Tryz.ntmps80
  go_wp2_with fail
  go_loopw [3, 4] (fun o i wr => ∃ k : Nat, i = .int .i64 k ∧ k ≤ s.length ∧ o = .string (bs (plainT (s.take k))) ∧ Hid (Below w.heap.size w wr)) (fun _ i _ => s.length - (intOf i).toNat)
  case atStart => exact ⟨0, rfl, by omega, by simp [plainT]; rfl, hide (Below.refl _ _)⟩
  case round =>
    obtain ⟨k, rfl, hk, rfl, hB⟩ := hrel
    rename World => wr
    by_cases hlt : k < s.length
    · have hi : k < (bs s).size := by omega
      obtain ⟨c, hsu, hb, hx⟩ : ∃ c, plainT (s.take (k + 1)) = plainT (s.take k) ++ plainB c ∧ (bs s)[k] = c ∧ (bs s).extract k (k + 1) = bs [c] := ⟨s[k], plain_succ s k hlt, rfl, by rw [xb, List.take_succ_eq_append_getElem hlt]; congr 1; rw [List.drop_append_of_le_length (by simp; omega)]; simp; rfl⟩
      have hln := plain_take_le s k
      have hc8 : c.toNat < 256 := c.toNat_lt
      obtain ⟨D, hD⟩ : ∃ D, bs (plainT (s.take k)) = D := ⟨_, rfl⟩
      have hDz : D.size ≤ 300000 := by rw [← hD, bs_size]; omega
      rw [hD]
      have s1 : ¬ 9223372036854775806 < D.size := by omega
      have s2 : ¬ 9223372036854775805 < D.size := by omega
      have s3 : ¬ 9223372036854775804 < D.size := by omega
      by_cases ho : oddB c = true
      · have hpb : plainB c = [[37], [hexU (c.toNat / 16)], [hexU (c.toNat % 16)]].flatten := by unfold plainB; rw [if_pos ho]; rfl
        have x1 := hex_cut (c.toNat / 16) (by omega)
        have x2 := hex_cut (c.toNat % 16) (by omega)
        obtain ⟨a, ha⟩ : ∃ a, c.toNat / 16 = a := ⟨_, rfl⟩
        obtain ⟨b, hb'⟩ : ∃ b, c.toNat % 16 = b := ⟨_, rfl⟩
        rw [ha] at hpb x1
        rw [hb'] at hpb x2
        have hwa : IntKind.u8.wrap ((c.toNat : Int) / 16) = (a : Int) := by rw [IntKind.wrap_u8]; omega
        have htb : ((c.toNat : Int)).tmod 16 = (b : Int) := by rw [← hb']; exact (Int.ofNat_tmod c.toNat 16).symm
        have d0 : a < 16 := by omega
        have d0' : b < 16 := by omega
        have hwa1 : IntKind.u8.wrap ((a : Int) + 1) = (a : Int) + 1 := by rw [IntKind.wrap_u8]; omega
        have hwb1 : IntKind.u8.wrap ((b : Int) + 1) = (b : Int) + 1 := by rw [IntKind.wrap_u8]; omega
        have d1 : (0 : Int) ≤ (a : Int) := by omega
        have d2 : (a : Int) ≤ (a : Int) + 1 := by omega
        have d3 : (a : Int) + 1 ≤ 16 := by omega
        have d4 : (0 : Int) ≤ (b : Int) := by omega
        have d5 : (b : Int) ≤ (b : Int) + 1 := by omega
        have d6 : (b : Int) + 1 ≤ 16 := by omega
        have hq : (c.toNat : Int) < 32 ∨ (32 ≤ (c.toNat : Int) ∧ ((c.toNat : Int) == 127) = true) ∨ (32 ≤ (c.toNat : Int) ∧ ((c.toNat : Int) == 127) = false ∧ ((c.toNat : Int) == 37) = true) := by
          have := odd_int c
          rw [ho] at this
          simp only [Bool.or_eq_true, decide_eq_true_eq, beq_iff_eq, beq_eq_false_iff_ne] at this ⊢
          omega
        obtain ⟨P, hP⟩ : ∃ P, bs [hexU a] = P := ⟨_, rfl⟩
        obtain ⟨R, hR⟩ : ∃ R, bs [hexU b] = R := ⟨_, rfl⟩
        have hPz : P.size = 1 := by rw [← hP]; rfl
        have hRz : R.size = 1 := by rw [← hR]; rfl
        have hcat : Hid (D ++ ⟨#[37]⟩ ++ P ++ R = bs (plainT (s.take (k + 1)))) := by
          show _ = _
          rw [hsu, hpb, ← hD, ← hP, ← hR, show (⟨#[37]⟩ : ByteArray) = bs [37] from rfl, bs_app, bs_app, bs_app]
          congr 1
          simp
        rw [hP] at x1
        rw [hR] at x2
        clear ho hpb hsu hD hP hR
        rcases hq with hq1 | ⟨hq1, hq2⟩ | ⟨hq1, hq2, hq3⟩
        all_goals (
          go_wp2_with fail
          go_quiet (fail)
          go_wp2_with fail
          go_roundw
          case rel => exact ⟨k + 1, by go_num, by omega, by rw [hcat.out], hide (below_drewN hB.out _)⟩
          case measure => simp [intOf]; omega)
      · have ho' : oddB c = false := by simpa using ho
        have hpb : plainB c = [c] := by unfold plainB; rw [ho']; rfl
        have hq : 32 ≤ (c.toNat : Int) ∧ ((c.toNat : Int) == 127) = false ∧ ((c.toNat : Int) == 37) = false := by
          have := odd_int c
          rw [ho'] at this
          simp only [Bool.or_eq_false_iff, decide_eq_false_iff_not] at this
          exact ⟨by omega, this.1.2, this.2⟩
        obtain ⟨hq1, hq2, hq3⟩ := hq
        obtain ⟨P, hP⟩ : ∃ P, bs [c] = P := ⟨_, rfl⟩
        have hPz : P.size = 1 := by rw [← hP]; rfl
        have hcat : Hid (D ++ P = bs (plainT (s.take (k + 1)))) := by
          show _ = _
          rw [hsu, hpb, ← hD, ← hP, bs_app]
        rw [hP] at hx
        clear ho ho' hpb hsu hD hP
        go_wp2_with fail
        go_roundw
        case rel => exact ⟨k + 1, by go_num, by omega, by rw [hcat.out], hB⟩
        case measure => simp [intOf]; omega
    · obtain rfl : k = s.length := by omega
      rw [List.take_length]
      go_wp2_with fail
      go_ret
      exact ⟨rfl, hB.out⟩
end Go.Proofs.YthhlnpfcpgfcfaaGreatDoor
