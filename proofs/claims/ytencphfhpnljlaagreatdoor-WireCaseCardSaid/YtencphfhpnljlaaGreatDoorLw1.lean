/-
  waypostlaw11: tells.
-/
import Derived.Test.YtencphfhpnljlaaGreatDoorWp14
import Derived.BigQuiet
import Derived.Deep.QuietTactic
namespace Go.Proofs.YtencphfhpnljlaaGreatDoor
open Go.RowKit

theorem tells_of {S : List UInt8} {status : Nat} {body : List UInt8} {kinds : List Nat} (h : tellsW S status body kinds = true) :
    (feedW newW S).2.map (·.kind) = kinds ∧ ∃ e, (feedW newW S).2.getLast? = some e ∧ e.status = status ∧ e.body = body := by
  unfold tellsW at h
  simp only [Bool.and_eq_true] at h
  obtain ⟨⟨h1, _⟩, h3⟩ := h
  refine ⟨by simpa using h1, ?_⟩
  cases hl : (feedW newW S).2.getLast? with
  | none => rw [hl] at h3; cases h3
  | some e =>
    rw [hl] at h3
    simp at h3
    exact ⟨e, rfl, h3.1, h3.2⟩
set_option maxRecDepth 100000 in
set_option maxHeartbeats 4000000 in
theorem pTells (S : List UInt8) (status : Nat) (z : Int) (hz : z = (status : Int)) (body : List UInt8) (kinds : List Nat) (A : Option Addr) (n c : Nat) (w : World) (hr : Reads w w.heap.size 1 A n (ints kinds)) (h : tellsW S status body kinds = true) (hS : S.length ≤ 20000) (hT : TabW w) :
    Calls Tryz.prog 17 #[.string (bs S), .int .i64 z, .string (bs body), .slice A n c] w fun e w' => e = .returned (.bool true) ∧ Below w.heap.size w w' := by
  subst hz
  obtain ⟨hk, ev, hev, hst, hbd⟩ := tells_of h
  have hn : n = kinds.length := by have := hr.1; rw [ints_len] at this; omega
  have hvl := events_feed S newW
  have cA := pAllW S w hS hT
  obtain ⟨evs, hevs⟩ : ∃ evs, (feedW newW S).2 = evs := ⟨_, rfl⟩
  rw [hevs] at hk hev hvl cA
  unfold AllPostW at cA
  have hkl : kinds.length = evs.length := by rw [← hk, List.length_map]
  have hpos : 0 < evs.length := by
    cases evs with
    | nil => simp at hev
    | cons a l => simp
  have hlast : evs[evs.length - 1]? = some ev := by rw [← hev, List.getLast?_eq_getElem?]
  subst hn
  obtain ⟨T, hTT⟩ : ∃ T, bs S = T := ⟨_, rfl⟩
  rw [hTT] at cA ⊢
  have CA := Lib.hid cA
  have HR := Lib.hid hr
  have HK := Lib.hid (And.intro hk (And.intro hlast (And.intro hst hbd)))
  rw [hkl] at HR ⊢
  have hl3 : evs.length ≤ 40000 := by omega
  clear cA hr hk hev hlast hst hbd hkl hvl hevs hTT hT h
  go_enter Tryz.func17, Tryz.ntmps17
  go_wp2_with fail
  (with_reducible refine (CA.out).mono ?_); rintro e w1 ⟨O, oc, X, rfl, hX, hRX, hHX, g1⟩
  have hXl : X.length = evs.length := by rw [← hX, List.length_map]
  have e0 : (((evs.length : Nat) : Int) != (evs.length : Int)) = false := by simp
  have e1 : (((evs.length : Nat) : Int) == 0) = false := by rw [beq_eq_false_iff_ne]; omega
  have HX := Lib.hid (And.intro hX (And.intro hRX (And.intro hHX g1)))
  have HXL := Lib.hid hXl
  rw [hXl] at HX ⊢
  clear hX hRX hHX g1 hXl
  go_wp2_with fail
  go_loopw [11] (fun i wr => ∃ k : Nat, i = .int .i64 k ∧ k ≤ evs.length ∧ Hid (Below w1.heap.size w1 wr)) (fun i _ => evs.length - (intOf i).toNat)
  case atStart => exact ⟨0, rfl, by omega, hide (Below.refl _ _)⟩
  case round =>
    obtain ⟨k, rfl, hk, hB⟩ := hrel
    rename World => wr
    by_cases hlt : k < evs.length
    · have hkX : k < X.length := by rw [HXL.out]; exact hlt
      obtain ⟨b, o, rfl, hb, q0, hqr⟩ := (HX.out.2.1.below hB.out).ev k hkX
      clear hqr
      have g1 := HX.out.2.2.2
      have hr1 := (HR.out.below (g1.trans (hB.out.mono g1.size)))
      have hkk : k < (ints kinds).length := by rw [ints_len, ← HK.out.1, List.length_map]; exact hlt
      obtain ⟨b2, o2, rfl, hb2, hc2⟩ := hr1.lit (by omega)
      have hkd : k < kinds.length := by rw [← HK.out.1, List.length_map]; exact hlt
      have c2 := hc2 k _ (ints_get kinds k hkd)
      have hEq : X[k].1.kind = kinds[k] := by
        have h1 : (X.map (·.1))[k]? = evs[k]? := by rw [HX.out.1]
        have h2 : (evs.map (·.kind))[k]? = kinds[k]? := by rw [HK.out.1]
        rw [List.getElem?_map, List.getElem?_eq_getElem hkX, List.getElem?_eq_getElem hlt] at h1
        rw [List.getElem?_map, List.getElem?_eq_getElem hlt, List.getElem?_eq_getElem hkd] at h2
        simp only [Option.map_some, Option.some.injEq] at h1 h2
        rw [h1, h2]
      rw [hEq] at q0
      generalize kinds[k] = kd at *
      have i0 : (0 : Int) ≤ (k : Int) := by omega
      have i1 : (k : Int) < (evs.length : Int) := by omega
      have e2 : ((kd : Int) != (kd : Int)) = false := by simp
      clear hr1 hkk hc2 hEq hkX hkd g1
      go_wp2_with fail
      go_quiet (fail)
      go_wp2_with fail
      go_roundw
      case rel => exact ⟨k + 1, by go_num, by omega, hide (below_drewN hB.out _)⟩
      case measure => simp [intOf]; omega
    · obtain rfl : k = evs.length := by omega
      have hd : decide ((evs.length : Int) < (evs.length : Int)) = false := by simp
      have hkX : evs.length - 1 < X.length := by rw [HXL.out]; omega
      obtain ⟨b, o, rfl, hb, q0, q1, q2, q3, q4, q5⟩ := (HX.out.2.1.below hB.out).ev (evs.length - 1) hkX
      have hlt : evs.length - 1 < evs.length := by omega
      have hEq : X[evs.length - 1].1 = ev := by
        have h1 : (X.map (·.1))[evs.length - 1]? = evs[evs.length - 1]? := by rw [HX.out.1]
        rw [HK.out.2.1, List.getElem?_map, List.getElem?_eq_getElem hkX] at h1
        exact Option.some.inj h1
      rw [hEq] at q0 q1 q2 q3 q4 q5
      rw [HK.out.2.2.1] at q5
      rw [HK.out.2.2.2] at q4
      generalize X[evs.length - 1].2.1 = fa at *
      generalize X[evs.length - 1].2.2 = fc at *
      obtain ⟨k1, hk1⟩ : ∃ k1, evs.length - 1 = k1 := ⟨_, rfl⟩
      rw [hk1] at q0 q1 q2 q3 q4 q5
      have i0 : (0 : Int) ≤ (k1 : Int) := by omega
      have i1 : (k1 : Int) < (evs.length : Int) := by omega
      have wk : IntKind.i64.wrap ((evs.length : Int) - 1) = (k1 : Int) := by rw [IntKind.wrap_i64]; omega
      have wk2 : (evs.length : Int) - 1 = (k1 : Int) := by omega
      have e2 : ((status : Int) == (status : Int)) = true := by simp
      have e3 : ((bs body).toList == (bs body).toList) = true := by simp
      have FIN := Lib.hid ((HX.out.2.2.2.trans (hB.out.mono HX.out.2.2.2.size)).alloc ((HX.out.2.2.2.trans (hB.out.mono HX.out.2.2.2.size))).size (.cells #[.int .i64 (ev.kind : Nat), .string (bs ev.meth), .string (bs ev.tgt), .slice fa ev.flds.length fc, .string (bs body), .int .i64 (status : Nat)] 41))
      clear hEq hkX hlt hk1 hB
      go_wp2_with fail
      go_ret
      exact ⟨rfl, FIN.out⟩
end Go.Proofs.YtencphfhpnljlaaGreatDoor
