/-
  waypostlaw10.made: a body and sizes made of numbers.
-/
import Derived.Test.YtkbihipgnlglbaaGreatDoorLa10
namespace Go.Proofs.YtkbihipgnlglbaaGreatDoor
open Go.RowKit

def modI (n m : Int) : Int := if 0 ≤ n then n % m else if n.tmod m < 0 then n.tmod m + m else n.tmod m
theorem modI_lt {m : Int} (hm : 1 ≤ m) (n : Int) : 0 ≤ modI n m ∧ modI n m < m := by
  have u1 := Int.tmod_lt_of_pos n (show 0 < m by omega)
  have u2 := Int.lt_tmod_of_pos n (show 0 < m by omega)
  have hr := Int.emod_nonneg n (show m ≠ 0 by omega)
  have hr2 := Int.emod_lt_of_pos n (show 0 < m by omega)
  unfold modI
  split
  · omega
  · split <;> omega
theorem Mod_I (n m : Int) (w : World) (hn1 : -9223372036854775808 ≤ n) (hn2 : n ≤ 9223372036854775807) (hm : 1 ≤ m) (hm2 : m ≤ 1099511627776) :
    Calls Tryz.prog 20 #[.int .i64 n, .int .i64 m] w fun e w' => e = .returned (.int .i64 (modI n m)) ∧ w' = w := by
  have d1 : decide (m < 1) = false := by simp; omega
  have u1 := Int.tmod_lt_of_pos n (show 0 < m by omega)
  have u2 := Int.lt_tmod_of_pos n (show 0 < m by omega)
  by_cases hp : 0 ≤ n
  · have hr := Int.emod_nonneg n (show m ≠ 0 by omega)
    have hr2 := Int.emod_lt_of_pos n (show 0 < m by omega)
    have d2 : decide (n % m < 0) = false := by simp; omega
    have E : modI n m = n % m := by unfold modI; rw [if_pos hp]
    rw [E]
    clear u1 u2 E
    go_enter Tryz.func20, Tryz.ntmps20
    go_wp2_with fail
    go_ret
    exact ⟨rfl, rfl⟩
  · have hneg : n < 0 := by omega
    by_cases h0 : n.tmod m < 0
    · have d2 : decide (n.tmod m < 0) = true := by simpa using h0
      have E : modI n m = n.tmod m + m := by unfold modI; rw [if_neg hp, if_pos h0]
      rw [E]
      clear E
      go_enter Tryz.func20, Tryz.ntmps20
      go_wp2_with fail
      go_ret
      exact ⟨rfl, rfl⟩
    · have d2 : decide (n.tmod m < 0) = false := by simpa using h0
      have E : modI n m = n.tmod m := by unfold modI; rw [if_neg hp, if_neg h0]
      rw [E]
      clear E
      go_enter Tryz.func20, Tryz.ntmps20
      go_wp2_with fail
      go_ret
      exact ⟨rfl, rfl⟩
theorem app_u8 {base : Nat} {W : World} {v : Value} {xs : List UInt8} (ho : W.ownsRow base 5 1 v xs.length (Lib.byteCells xs)) (hb : base ≤ W.heap.size) (hl : xs.length ≤ 1000000) (y : UInt8) :
    ∃ v' w5, (Builtin.append_ #[42, 42] 42 #[v, .slice (some ⟨W.heap.size, 0, none⟩) 1 1]).run Tryz.prog (W.alloc (.cells #[.int .u8 (y.toNat : Int)] 5)) = .ok v' w5 ∧ w5.ownsRow base 5 1 v' (xs ++ [y]).length (Lib.byteCells (xs ++ [y])) ∧
      Below base W w5 ∧ W.grownBy w5 v.ownBlock := by
  obtain ⟨i0, hi, hz0, hz1, hz2⟩ := info_parts infoU8A
  obtain ⟨v', w5, hrun, hown, hg, hlt, _⟩ := app_one (P := Tryz.prog) 42 42 5 i0 (.int .u8 0) 1 1 Tryz.underlying42 hi hz0 hz1 hz2 rfl (by decide) base W v _ _ ho #[.int .u8 (y.toNat : Int)] rfl (by intro u hu; simp at hu; subst hu; rfl) 5 (by unfold maxLen; omega) (by omega) hb
  refine ⟨v', w5, hrun, ?_, (Below.refl base W).grown hg hb (own_ge ho), hg⟩
  rw [byteCells_snoc, List.length_append]; exact hown
theorem app_z {base : Nat} {W : World} {v : Value} {xs : List Int} (ho : W.ownsRow base 3 1 v xs.length (xs.map (Value.int .i64))) (hb : base ≤ W.heap.size) (hl : xs.length ≤ 1000000) (y : Int) :
    ∃ v' w5, (Builtin.append_ #[26, 26] 26 #[v, .slice (some ⟨W.heap.size, 0, none⟩) 1 1]).run Tryz.prog (W.alloc (.cells #[.int .i64 y] 3)) = .ok v' w5 ∧ w5.ownsRow base 3 1 v' (xs ++ [y]).length ((xs ++ [y]).map (Value.int .i64)) ∧
      Below base W w5 ∧ W.grownBy w5 v.ownBlock := by
  obtain ⟨i0, hi, hz0, hz1, hz2⟩ := info_parts info_i64
  obtain ⟨v', w5, hrun, hown, hg, hlt, _⟩ := app_one (P := Tryz.prog) 26 26 3 i0 (.int .i64 0) 1 8 Tryz.underlying26 hi hz0 hz1 hz2 rfl (by decide) base W v _ _ ho #[.int .i64 y] rfl (by intro u hu; simp at hu; subst hu; rfl) 3 (by unfold maxLen; omega) (by omega) hb
  refine ⟨v', w5, hrun, ?_, (Below.refl base W).grown hg hb (own_ge ho), hg⟩
  rw [List.map_append, List.length_append]; exact hown
theorem wrap_rng (z : Int) : -9223372036854775808 ≤ IntKind.i64.wrap z ∧ IntKind.i64.wrap z ≤ 9223372036854775807 := by
  rw [IntKind.wrap_i64]; omega
theorem wrap64_rng (z : Int) : -9223372036854775808 ≤ wrap64 z ∧ wrap64 z ≤ 9223372036854775807 := by
  rw [← Go.IntWalk.i64_left]; exact wrap_rng z
theorem mod_30 (z : Int) (w : World) (h : -9223372036854775808 ≤ z ∧ z ≤ 9223372036854775807) : Calls Tryz.prog 20 #[.int .i64 z, .int .i64 30] w fun e w' => ∃ r : Nat, r < 30 ∧ e = .returned (.int .i64 (r : Int)) ∧ w' = w :=
  (Mod_I z 30 w h.1 h.2 (by omega) (by omega)).mono fun e w' ⟨he, hw⟩ => by
    have hr := modI_lt (show (1 : Int) ≤ 30 by omega) z
    exact ⟨(modI z 30).toNat, by omega, by rw [he, Int.toNat_of_nonneg hr.1], hw⟩
theorem mod_u8 (z : Int) (w : World) (h : -9223372036854775808 ≤ z ∧ z ≤ 9223372036854775807) : Calls Tryz.prog 20 #[.int .i64 z, .int .i64 256] w fun e w' => ∃ b : UInt8, e = .returned (.int .i64 (b.toNat : Int)) ∧ w' = w :=
  (Mod_I z 256 w h.1 h.2 (by omega) (by omega)).mono fun e w' ⟨he, hw⟩ => by
    have hr := modI_lt (show (1 : Int) ≤ 256 by omega) z
    refine ⟨UInt8.ofNat (modI z 256).toNat, ?_, hw⟩
    rw [he, UInt8.toNat_ofNat', Nat.mod_eq_of_lt (by omega), Int.toNat_of_nonneg hr.1]
/-- what made returns -/
def MadeP (w : World) (e : Ending) (w' : World) : Prop := ∃ (xs : List UInt8) (B : Option Addr) (m d : Nat) (zs : List Int), e = .returned (.tuple #[.string (bs xs), .slice B m d]) ∧ xs.length ≤ 200 ∧ Reads w' w'.heap.size 1 B m (zs.map (Value.int .i64)) ∧ m ≤ 40 ∧ goodZ zs ∧ Below w.heap.size w w'
set_option maxRecDepth 100000 in
set_option maxHeartbeats 8000000 in
theorem made10 (n : Int) (A : Option Addr) (l c : Nat) (ns : List Int) (w : World) (hn1 : -9223372036854775808 ≤ n) (hn2 : n ≤ 9223372036854775807) (hr : Reads w w.heap.size 1 A l (ns.map (Value.int .i64))) (hl : l ≤ 9223372036854775807) (hz : ∀ z ∈ ns, -9223372036854775808 ≤ z ∧ z ≤ 9223372036854775807) :
    Calls Tryz.prog 19 #[.int .i64 n, .slice A l c] w (MadeP w) := by
  obtain rfl := hr.zlen
  have CM := Lib.hid (fun w => Mod_I n 201 w hn1 hn2 (by omega) (by omega))
  have hmm := modI_lt (show (1 : Int) ≤ 201 by omega) n
  generalize modI n 201 = mm at *
  obtain ⟨M, rfl⟩ := Int.eq_ofNat_of_zero_le hmm.1
  have hM : M ≤ 200 := by omega
  have HR := Lib.hid hr
  have HZ := Lib.hid hz
  have hO0 : Hid (w.ownsRow w.heap.size 5 1 (.slice none 0 0) ([] : List UInt8).length (Lib.byteCells [])) := hide (World.ownsRow_nil _ _ _ _)
  clear hr hz hn1 hn2 hmm
  go_enter Tryz.func19, Tryz.ntmps19
  go_wp2_with fail
  go_loopw [6, 7] (fun v i wr => ∃ (k : Nat) (xs : List UInt8), i = .int .i64 k ∧ xs.length = k ∧ k ≤ M ∧ Hid (wr.ownsRow w.heap.size 5 1 v xs.length (Lib.byteCells xs)) ∧ (k = 0 → v = .slice none 0 0) ∧ Hid (Below w.heap.size w wr)) (fun _ i _ => M - (intOf i).toNat)
  case atStart => exact ⟨0, [], rfl, rfl, by omega, hO0, fun _ => rfl, hide (Below.refl _ _)⟩
  case round =>
    obtain ⟨k, xs, rfl, hxl, hkM, hO, hv0, hb⟩ := hrel
    rename World => wr
    by_cases hlt : k < M
    · have CA := Lib.hid (At_any A ns.length c ns k wr ((HR.out.below hb.out).more hb.out.size) hl)
      have hd : decide ((k : Int) < (M : Int)) = true := by simp; omega
      go_wp2_with fail
      (with_reducible refine (CM.out _).mono ?_); rintro e w' ⟨rfl, rfl⟩
      go_wp2_with fail
      (with_reducible refine (CA.out).mono ?_); rintro e w2 ⟨rfl, g2⟩
      go_wp2_with fail
      (with_reducible refine (mod_u8 _ _ (wrap64_rng _)).mono ?_); rintro e w' ⟨b, rfl, rfl⟩
      rename World => w2
      have hbX := hb.out.trans (g2.mono hb.out.size)
      obtain ⟨v', w5, hrun, hown, hb5, _⟩ := app_u8 (own_below hO.out g2) hbX.size (by omega) b
      have hw8 : IntKind.u8.wrap (b.toNat : Int) = (b.toNat : Int) := by
        have := UInt8.toNat_lt b
        rw [IntKind.wrap_u8]; omega
      have HO' := Lib.hid hown
      have HRUN := Lib.hid hrun
      have HY := Lib.hid (hbX.trans hb5)
      have hk1 : IntKind.i64.wrap ((k : Int) + 1) = ((k + 1 : Nat) : Int) := by rw [IntKind.wrap_i64]; omega
      clear hrun hown hb5 hbX g2
      go_wp2_with (at_builtin; refine wpList_append_run HRUN.out rfl _ _ rfl rfl rfl rfl ?_)
      go_roundw
      case rel => exact ⟨k + 1, xs ++ [b], by go_num, by simp [hxl], by omega, HO', fun h => by omega, HY⟩
      case measure => simp [intOf]; omega
    · obtain rfl : k = M := by omega
      have hd : decide ((k : Int) < (k : Int)) = false := by simp
      go_wp2_with fail
      (with_reducible refine (CM.out _).mono ?_); rintro e w' ⟨rfl, rfl⟩
      rename World => wr
      have hO1 : Hid (wr.ownsRow wr.heap.size 3 1 (.slice none 0 0) ([] : List Int).length (([] : List Int).map (Value.int .i64))) := hide (World.ownsRow_nil _ _ _ _)
      have hg1 : Hid (goodZ []) := hide (by intro z hz; simp at hz)
      have hb1 : Hid (Below wr.heap.size wr wr) := hide (Below.refl _ _)
      go_wp2_with fail
      go_loopw [8, 9] (fun v i wx => ∃ (j : Nat) (zs : List Int), i = .int .i64 j ∧ zs.length = j ∧ j ≤ ns.length ∧ j ≤ 40 ∧ Hid (wx.ownsRow wr.heap.size 3 1 v zs.length (zs.map (Value.int .i64))) ∧ Hid (goodZ zs) ∧ Hid (Below wr.heap.size wr wx)) (fun _ i _ => ns.length - (intOf i).toNat)
      case atStart => exact ⟨0, [], rfl, rfl, by omega, by omega, hO1, hg1, hb1⟩
      case round =>
        obtain ⟨j, zs, rfl, hzl, hj, hj40, hOz, hgz, hbz⟩ := hrel
        rename World => wx
        have hbw := hb.out.trans (hbz.out.mono hb.out.size)
        by_cases hlt : j < ns.length ∧ j < 40
        · obtain ⟨hl1, hl2⟩ := hlt
          obtain ⟨b, o, rfl, hbl, c1⟩ := HR.out.zint j hl1
          have c2 := (hbw.cell (p := ⟨b, o + j, none⟩) hbl).trans c1
          have hxr := HZ.out ns[j] (List.getElem_mem hl1)
          obtain ⟨x, hx⟩ : ∃ x, ns[j] = x := ⟨_, rfl⟩
          rw [hx] at c2 hxr
          have d1 : decide ((j : Int) < (ns.length : Int)) = true := by simp; omega
          have d2 : decide ((j : Int) < 40) = true := by simp; omega
          clear c1 hx
          go_wp2_with fail
          (with_reducible refine (mod_30 _ _ hxr).mono ?_); rintro e w' ⟨r, hr30, rfl, rfl⟩
          rename World => wx
          have hbX : wr.heap.size ≤ wx.heap.size := hbz.out.size
          obtain ⟨v', w5, hrun, hown, hb5, _⟩ := app_z hOz.out hbX (by omega) ((r + 1 : Nat) : Int)
          have hG : Hid (goodZ (zs ++ [((r + 1 : Nat) : Int)])) := hide (by
            intro z hz
            rcases List.mem_append.1 hz with h | h
            · exact hgz.out z h
            · rw [List.mem_singleton.1 h]; omega)
          have hw1 : IntKind.i64.wrap (1 + (r : Int)) = ((r + 1 : Nat) : Int) := by rw [IntKind.wrap_i64]; omega
          have hw2 : wrap64 (1 + (r : Int)) = ((r + 1 : Nat) : Int) := by rw [← Go.IntWalk.i64_left]; exact hw1
          have hw3 : 1 + (r : Int) = ((r + 1 : Nat) : Int) := by omega
          rw [← hw3] at hrun hown hG
          have HO' := Lib.hid hown
          have HRUN := Lib.hid hrun
          have HY := Lib.hid (hbz.out.trans hb5)
          clear hrun hown hb5 hbX hw1 hw2 hw3 hbw
          go_wp2_with (at_builtin; refine wpList_append_run HRUN.out rfl _ _ rfl rfl rfl rfl ?_)
          go_roundw
          case rel => exact ⟨j + 1, _, by go_num, by simp [hzl], by omega, by omega, HO', hG, HY⟩
          case measure => simp [intOf]; omega
        · obtain ⟨B, d, rfl⟩ := own_slice hOz.out
          have HRz := Lib.hid (Reads.of_own hOz.out)
          have hO8 := own_below hO.out hbz.out
          have HBW := Lib.hid hbw
          have hcv : ∀ q : World, q.ownsRow w.heap.size 5 1 u6 xs.length (Lib.byteCells xs) → (convert 42 9 u6).run Tryz.prog q = .ok (.string (bs xs)) q := fun q hq => by
            by_cases h0 : xs.length = 0
            · obtain rfl := List.eq_nil_of_length_eq_zero h0
              rw [hv0 (by omega)]
              kernel_rfl
            · obtain ⟨g, cap, rfl, _⟩ := hq.form (by omega)
              have hc := hq.cells (g := g) rfl
              exact run_convert_bytes_back (P := Tryz.prog) q 42 9 5 ⟨g, 0, none⟩ cap xs Tryz.underlying42 Tryz.underlying5 Tryz.underlying9 (fun j hj => hc j _ (by simp [Lib.byteCells, List.getElem?_eq_getElem hj]))
          have hcv := hcv _ hO8
          clear hbw hO8
          by_cases hl1 : j < ns.length
          · have d1 : decide ((j : Int) < (ns.length : Int)) = true := by simp; omega
            have d2 : decide ((j : Int) < 40) = false := by simp; omega
            go_wp2_with fail
            go_ret2
            exact ⟨xs, B, zs.length, d, zs, rfl, by omega, HRz.out, by omega, hgz.out, HBW.out⟩
          · have d1 : decide ((j : Int) < (ns.length : Int)) = false := by simp; omega
            go_wp2_with fail
            go_ret2
            exact ⟨xs, B, zs.length, d, zs, rfl, by omega, HRz.out, by omega, hgz.out, HBW.out⟩
end Go.Proofs.YtkbihipgnlglbaaGreatDoor
