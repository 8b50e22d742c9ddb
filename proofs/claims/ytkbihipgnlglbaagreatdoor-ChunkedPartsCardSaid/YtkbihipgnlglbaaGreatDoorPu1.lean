/-
  strconv.ParseUint of one byte, base 16, 8 bits, and chunked.value.
-/
import Derived.Test.YtkbihipgnlglbaaGreatDoorShelf
import Derived.Test.YtkbihipgnlglbaaGreatDoorShelfE
import Derived.Test.YtkbihipgnlglbaaGreatDoorRc1
import Derived.Lib.Strings
import Derived.Lib.Walk
import Derived.Lib.ConvBytes
import Derived.Lib.ParseIntBMem
import Derived.Lib.AtoiErrMem
import Derived.Laws.Strings3
import Derived.Laws.Closers25
import Derived.Laws.Closers25b
namespace Go.Proofs.YtkbihipgnlglbaaGreatDoor
open Go.RowKit

theorem puLower (c : Int) (w : World) : Calls Tryz.prog 104 #[.int .u8 c] w fun e w' => e = .returned (.int .u8 (bits .or .u8 c 32)) ∧ w' = w := by
  go_enter Tryz.func104, Tryz.ntmps104
  go_wp2
  go_ret
  exact ⟨rfl, rfl⟩
theorem or32 : ∀ n : Fin 256, (48 ≤ n.val ∧ n.val ≤ 57) ∨ ((97 ≤ n.val ∧ n.val ≤ 122) ∧ bits .or .u8 (n.val : Int) 32 = n.val) ∨ ((65 ≤ n.val ∧ n.val ≤ 90) ∧ bits .or .u8 (n.val : Int) 32 = n.val + 32) ∨ ((bits .or .u8 (n.val : Int) 32 < 97 ∨ 122 < bits .or .u8 (n.val : Int) 32) ∧ (n.val < 48 ∨ 57 < n.val) ∧ (n.val < 97 ∨ 122 < n.val) ∧ (n.val < 65 ∨ 90 < n.val)) := by decide +kernel
/-- what strconv.ParseUint gives of one byte -/
def puV (b : UInt8) (er : Value) : Value := match hexV b with
  | some v => .tuple #[.int .u64 v, .nilIface]
  | none => .tuple #[.int .u64 0, er]
theorem digI_of (b : UInt8) (n : Nat) (hn : b.toNat = n) : digI b = if 48 ≤ n ∧ n ≤ 57 then (n : Int) - 48 else if 97 ≤ n ∧ n ≤ 102 then (n : Int) - 87 else if 65 ≤ n ∧ n ≤ 70 then (n : Int) - 55 else -1 := by
  unfold digI hexV
  rw [hn]
  split
  · rename_i v h
    split at h
    · rename_i hc; injection h with h; rw [if_pos hc]; omega
    · rename_i hc; rw [if_neg hc]
      split at h
      · rename_i hc; injection h with h; rw [if_pos hc]; omega
      · rename_i hc; rw [if_neg hc]
        split at h
        · rename_i hc; injection h with h; rw [if_pos hc]; omega
        · cases h
  · rename_i h
    split at h
    · cases h
    · rename_i hc; rw [if_neg hc]
      split at h
      · cases h
      · rename_i hc; rw [if_neg hc]
        split at h
        · cases h
        · rename_i hc; rw [if_neg hc]
set_option maxHeartbeats 32000000 in
set_option maxRecDepth 100000 in
theorem puHex (x : UInt8) (w : World) (hs : 0 ≤ digI x) : Calls Tryz.prog 96 #[.string ⟨#[x]⟩, .int .i64 16, .int .i64 8] w fun e w' => e = .returned (.tuple #[.int .u64 (digI x), .nilIface]) ∧ Below w.heap.size w w' := by
  obtain ⟨n, hn⟩ : ∃ n, x.toNat = n := ⟨_, rfl⟩
  have hlt : n < 256 := by rw [← hn]; exact x.toNat_lt
  have hor := or32 ⟨n, hlt⟩
  simp only at hor
  have hv0 := bits_lo_u8 .or (n : Int) 32
  have hv1 := bits_hi_u8 .or (n : Int) 32
  have hu0 := bits_lo_u8 .or 95 32
  have hu1 := bits_hi_u8 .or 95 32
  have hD := digI_of x n hn
  generalize digI x = D at hD hs ⊢
  have hcv := Lib.run_convert_string_bytes (P := Tryz.prog) w 9 42 5 ⟨#[x]⟩ (u := .string) Tryz.underlying9 Tryz.underlying42 Tryz.underlying5
  have hB : (Lib.bytesWorld w 5 ⟨#[x]⟩).cell? ⟨w.heap.size, 0, none⟩ = some (.int .u8 (n : Int)) := by
    have h := Lib.bytesWorld_cell w 5 ⟨#[x]⟩ 0 (by show 0 < 1; omega)
    rw [h, ← hn]; rfl
  have hbw := Lib.bytesWorld_below w 5 ⟨#[x]⟩
  obtain ⟨W1, hW1⟩ : ∃ W1, W1 = Lib.bytesWorld w 5 ⟨#[x]⟩ := ⟨_, rfl⟩
  rw [← hW1] at hcv hB hbw
  clear hW1
  have hsz : (⟨#[x]⟩ : ByteArray).size = 1 := rfl
  rw [hsz] at hcv
  have hemp : (⟨#[x]⟩ : ByteArray).toList.isEmpty = false := by rw [Lib.toList_data]; rfl
  have hmv : IntKind.u64.wrap (IntKind.u64.wrap 256 - 1) = 255 := by
    rw [IntKind.wrap_u64, IntKind.wrap_u64]
    decide
  have CL := fun c w => puLower c w
  obtain ⟨s, hs2⟩ : ∃ s, (⟨#[x]⟩ : ByteArray) = s := ⟨_, rfl⟩
  rw [hs2] at hcv hemp ⊢
  clear hs2 hsz
  have HBW := Lib.hid hbw
  clear hbw
  generalize hY : bits .or .u8 (n : Int) 32 = Y at *
  have cls : ((48 ≤ (n : Int) ∧ (n : Int) ≤ 57) ∧ D = (n : Int) - 48) ∨ (((n : Int) < 48 ∨ 57 < (n : Int)) ∧ ¬ (n : Int) = 95 ∧ (97 ≤ Y ∧ Y ≤ 102) ∧ D = Y - 97 + 10) := by
    split at hD
    · left; omega
    · right
      split at hD
      · omega
      · split at hD
        · omega
        · omega
  clear hD hor hn
  go_enter Tryz.func96, Tryz.ntmps96
  go_wp2_with fail
  go_loop [12, 13, 101] (fun vu vn vi => ∃ (k : Nat), vu = .bool false ∧ vi = .int .i64 k ∧ k ≤ 1 ∧ ((k = 0 ∧ vn = .int .u64 0) ∨ (k = 1 ∧ vn = .int .u64 D)))
    (fun _ _ vi => 1 - (intOf vi).toNat)
  case atStart => exact ⟨0, rfl, rfl, by omega, .inl ⟨rfl, rfl⟩⟩
  case round =>
    obtain ⟨k, rfl, rfl, hk, hh⟩ := hrel
    rcases hh with ⟨rfl, rfl⟩ | ⟨rfl, rfl⟩
    · clear hk
      rcases cls with ⟨⟨h1, h2⟩, rfl⟩ | ⟨h1, h2, ⟨h3, h4⟩, rfl⟩
      · clear hv0 hv1 hY
        go_wp2
        refine ⟨⟨1, rfl, rfl, by omega, .inr ⟨rfl, by first | rfl | (congr 1; omega)⟩⟩, by simp [intOf]⟩
      · have e95 : ((n : Int) == 95) = false := by rw [beq_eq_false_iff_ne]; exact h2
        rcases h1 with h1 | h1
        all_goals (
          go_wp2_with (go_at_call 104; refine (CL _ _).mono ?_; rintro e w' ⟨rfl, rfl⟩)
          exact ⟨⟨1, rfl, rfl, by omega, .inr ⟨rfl, rfl⟩⟩, by simp [intOf]⟩)
    · clear hB cls hk hv0 hv1
      go_wp2
      go_ret2
      exact ⟨rfl, HBW.out⟩
set_option maxHeartbeats 32000000 in
set_option maxRecDepth 100000 in
theorem puNot (x : UInt8) (w : World) (hs : digI x < 0) : Calls Tryz.prog 96 #[.string ⟨#[x]⟩, .int .i64 16, .int .i64 8] w fun e w' => e = .returned (.tuple #[.int .u64 0, .iface 124 (.int .i64 2)]) ∧ Below w.heap.size w w' := by
  obtain ⟨n, hn⟩ : ∃ n, x.toNat = n := ⟨_, rfl⟩
  have hlt : n < 256 := by rw [← hn]; exact x.toNat_lt
  have hor := or32 ⟨n, hlt⟩
  simp only at hor
  have hv0 := bits_lo_u8 .or (n : Int) 32
  have hv1 := bits_hi_u8 .or (n : Int) 32
  have hu0 := bits_lo_u8 .or 95 32
  have hu1 := bits_hi_u8 .or 95 32
  have hD := digI_of x n hn
  generalize digI x = D at hD hs ⊢
  have hcv := Lib.run_convert_string_bytes (P := Tryz.prog) w 9 42 5 ⟨#[x]⟩ (u := .string) Tryz.underlying9 Tryz.underlying42 Tryz.underlying5
  have hB : (Lib.bytesWorld w 5 ⟨#[x]⟩).cell? ⟨w.heap.size, 0, none⟩ = some (.int .u8 (n : Int)) := by
    have h := Lib.bytesWorld_cell w 5 ⟨#[x]⟩ 0 (by show 0 < 1; omega)
    rw [h, ← hn]; rfl
  have hbw := Lib.bytesWorld_below w 5 ⟨#[x]⟩
  obtain ⟨W1, hW1⟩ : ∃ W1, W1 = Lib.bytesWorld w 5 ⟨#[x]⟩ := ⟨_, rfl⟩
  rw [← hW1] at hcv hB hbw
  clear hW1
  have hsz : (⟨#[x]⟩ : ByteArray).size = 1 := rfl
  rw [hsz] at hcv
  have hemp : (⟨#[x]⟩ : ByteArray).toList.isEmpty = false := by rw [Lib.toList_data]; rfl
  have hmv : IntKind.u64.wrap (IntKind.u64.wrap 256 - 1) = 255 := by
    rw [IntKind.wrap_u64, IntKind.wrap_u64]
    decide
  have CL := fun c w => puLower c w
  obtain ⟨s, hs2⟩ : ∃ s, (⟨#[x]⟩ : ByteArray) = s := ⟨_, rfl⟩
  rw [hs2] at hcv hemp ⊢
  clear hs2 hsz
  have HBW := Lib.hid hbw
  clear hbw
  generalize hY : bits .or .u8 (n : Int) 32 = Y at *
  have cls : ((n : Int) < 48 ∨ 57 < (n : Int)) ∧ ((Y < 97 ∨ 122 < Y) ∨ (103 ≤ Y ∧ Y ≤ 122 ∧ ¬ (n : Int) = 95)) := by
    split at hD
    · omega
    · split at hD
      · omega
      · split at hD
        · omega
        · omega
  clear hD hor hn hs
  go_enter Tryz.func96, Tryz.ntmps96
  go_wp2_with fail
  go_loop [12, 13, 101] (fun vu vn vi => vu = .bool false ∧ vi = .int .i64 0 ∧ vn = .int .u64 0) (fun _ _ vi => 1 - (intOf vi).toNat)
  case atStart => exact ⟨rfl, rfl, rfl⟩
  case round =>
    obtain ⟨rfl, rfl, rfl⟩ := hrel
    obtain ⟨h0, h1⟩ := cls
    rcases h1 with h1 | ⟨h1, h2, h3⟩
    · rcases h0 with h0 | h0
      all_goals (
        rcases h1 with h1 | h1
        all_goals (
          go_wp2_with (go_at_call 104; refine (CL _ _).mono ?_; rintro e w' ⟨rfl, rfl⟩)
          all_goals go_ret2
          all_goals exact ⟨rfl, HBW.out⟩))
    · have e95 : ((n : Int) == 95) = false := by rw [beq_eq_false_iff_ne]; exact h3
      rcases h0 with h0 | h0
      all_goals (
        go_wp2_with (go_at_call 104; refine (CL _ _).mono ?_; rintro e w' ⟨rfl, rfl⟩)
        all_goals go_ret2
        all_goals exact ⟨rfl, HBW.out⟩)
set_option maxHeartbeats 8000000 in
set_option maxRecDepth 100000 in
theorem puPub (x : UInt8) (w : World) (te : TypeId) (pe : Value) (hv : w.cell? ⟨4, 0, none⟩ = some (.iface te pe)) : Calls Tryz.prog 84 #[.string ⟨#[x]⟩, .int .i64 16, .int .i64 8] w fun e w' => (if 0 ≤ digI x then e = .returned (.tuple #[.int .u64 (digI x), .nilIface]) else ∃ N : Nat, e = .returned (.tuple #[.int .u64 0, .iface 126 (.pointer (some ⟨N, 0, none⟩))])) ∧ Below w.heap.size w w' := by
  by_cases hs : 0 ≤ digI x
  · simp only [if_pos hs]
    have C := Lib.hid (puHex x w hs)
    clear hv
    go_enter Tryz.func84, Tryz.ntmps84
    go_wp2_with fail
    (with_reducible refine (C.out).mono ?_); rintro e w1 ⟨rfl, g1⟩
    go_wp2_with fail
    go_ret2
    exact ⟨rfl, g1⟩
  · simp only [if_neg hs]
    have C := Lib.hid (puNot x w (by omega))
    have hG : 4 < w.heap.size := Lib.lt_of_cell hv
    have hv' : ∀ w1, Below w.heap.size w w1 → w1.cell? ⟨4, 0, none⟩ = some (.iface te pe) := fun w1 g => (g.cell hG).trans hv
    have CT := fun (s : ByteArray) (hs : s.size ≤ 281474976710656) w1 g => Tryz.strconv_toError_syntax ⟨#[80, 97, 114, 115, 101, 85, 105, 110, 116]⟩ s 16 8 (.iface te pe) w1 hs (hv' w1 g) (.inr ⟨te, pe, rfl⟩)
    have HT := Lib.hid CT
    clear CT hv' hv hG
    go_enter Tryz.func84, Tryz.ntmps84
    go_wp2_with fail
    (with_reducible refine (C.out).mono ?_); rintro e w1 ⟨rfl, g1⟩
    have CT := Lib.hid (HT.out ⟨#[x]⟩ (by show 1 ≤ _; omega) w1 g1)
    go_wp2_with fail
    (with_reducible refine (CT.out).mono ?_); rintro e w2 ⟨N, rfl, -, -, g2⟩
    go_wp2_with fail
    go_ret2
    exact ⟨⟨N, rfl⟩, g1.trans (g2.mono g1.size)⟩
set_option maxHeartbeats 8000000 in
set_option maxRecDepth 100000 in
theorem mValue (x : UInt8) (w : World) (te : TypeId) (pe : Value) (hv : w.cell? ⟨4, 0, none⟩ = some (.iface te pe)) : Calls Tryz.prog 70 #[.int .u8 (x.toNat : Int)] w fun e w' => e = .returned (.int .i64 (digI x)) ∧ Below w.heap.size w w' := by
  have hcv : ∀ (q : World) (cap : Nat), q.cell? ⟨w.heap.size, 0, none⟩ = some (.int .u8 (x.toNat : Int)) → (convert 42 9 (.slice (some ⟨w.heap.size, 0, none⟩) 1 cap)).run Tryz.prog q = .ok (.string ⟨#[x]⟩) q := fun q cap hq => run_convert_bytes_back (P := Tryz.prog) q 42 9 5 ⟨w.heap.size, 0, none⟩ cap [x] Tryz.underlying42 Tryz.underlying5 Tryz.underlying9 (fun j hj => by
    have : j = 0 := by simpa using hj
    subst this
    exact hq)
  have g0 := (Below.refl w.heap.size w).alloc (Nat.le_refl _) (.cells #[.int .u8 (x.toNat : Int)] 5)
  have hG : 4 < w.heap.size := Lib.lt_of_cell hv
  have hC := puPub x (w.alloc (.cells #[.int .u8 (x.toNat : Int)] 5)) te pe ((g0.cell hG).trans hv)
  have HC := Lib.hid hC
  have G0 := Lib.hid g0
  have hn43 : 0 ≤ digI x → ¬ x.toNat = 43 ∧ ¬ x.toNat = 95 ∧ digI x < 16 := by
    intro h
    have hD := digI_of x _ rfl
    split at hD
    · omega
    · split at hD
      · omega
      · split at hD <;> omega
  have hlo : -1 ≤ digI x := by
    have hD := digI_of x _ rfl
    split at hD
    · omega
    · split at hD
      · omega
      · split at hD <;> omega
  clear hC g0 hv hG
  by_cases hs : 0 ≤ digI x
  · simp only [if_pos hs] at HC
    obtain ⟨n1, n2, n3⟩ := hn43 hs
    have e1 : ((x.toNat : Int) == 43) = false := by rw [beq_eq_false_iff_ne]; omega
    have e2 : ((x.toNat : Int) == 95) = false := by rw [beq_eq_false_iff_ne]; omega
    generalize digI x = D at *
    generalize (x.toNat : Int) = X at *
    go_enter Tryz.func70, Tryz.ntmps70
    go_wp2_with fail
    (with_reducible refine (HC.out).mono ?_); rintro e w1 ⟨rfl, g1⟩
    go_wp2_with fail
    go_ret
    exact ⟨rfl, G0.out.trans (g1.mono G0.out.size)⟩
  · simp only [if_neg hs] at HC
    have hm : digI x = -1 := by omega
    rw [hm]
    clear hn43 hlo hm hs
    generalize (x.toNat : Int) = X at *
    go_enter Tryz.func70, Tryz.ntmps70
    go_wp2_with fail
    (with_reducible refine (HC.out).mono ?_); rintro e w1 ⟨⟨N, rfl⟩, g1⟩
    go_wp2_with fail
    go_ret
    exact ⟨rfl, G0.out.trans (g1.mono G0.out.size)⟩
end Go.Proofs.YtkbihipgnlglbaaGreatDoor
