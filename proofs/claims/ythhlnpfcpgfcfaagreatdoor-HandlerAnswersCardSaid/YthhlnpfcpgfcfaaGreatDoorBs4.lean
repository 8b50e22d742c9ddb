/-
  The contract of byteset.Ranges, where no range is empty.
-/
import Derived.Test.YthhlnpfcpgfcfaaGreatDoorBs3
import Derived.Laws.ResultCell
import Derived.Deep.RegionWith
namespace Go.Proofs.YthhlnpfcpgfcfaaGreatDoor
open Go.RowKit

def inR (rs : List (Nat × Nat)) (x : Nat) : Bool := rs.any fun r => decide (r.1 ≤ x ∧ x ≤ r.2)
def rangesC (rs : List (Nat × Nat)) : List Value := rs.flatMap fun r => [.int .u8 r.1, .int .u8 r.2]
theorem rangesC_len (rs : List (Nat × Nat)) : (rangesC rs).length = rs.length * 2 := by
  induction rs with
  | nil => rfl
  | cons r rs ih => simp only [rangesC, List.flatMap_cons, List.length_append] at ih ⊢; rw [ih]; simp; omega
theorem rangesC_get (rs : List (Nat × Nat)) (k : Nat) (r : Nat × Nat) (hk : rs[k]? = some r) : (rangesC rs)[2 * k]? = some (.int .u8 r.1) ∧ (rangesC rs)[2 * k + 1]? = some (.int .u8 r.2) := by
  induction rs generalizing k with
  | nil => simp at hk
  | cons q rs ih =>
    simp only [rangesC, List.flatMap_cons]
    cases k with
    | zero => simp at hk; subst hk; exact ⟨rfl, rfl⟩
    | succ k =>
      have h := ih k (by simpa using hk)
      simp only [rangesC] at h
      rw [List.getElem?_append_right (by simp; omega), List.getElem?_append_right (by simp; omega)]
      simp only [List.length_cons, List.length_nil]
      rw [show 2 * (k + 1) - (0 + 1 + 1) = 2 * k by omega, show 2 * (k + 1) + 1 - (0 + 1 + 1) = 2 * k + 1 by omega]
      exact h
theorem inR_snoc (rs : List (Nat × Nat)) (r : Nat × Nat) : inR (rs ++ [r]) = fun x => inR rs x || decide (r.1 ≤ x ∧ x ≤ r.2) := by
  funext x; simp [inR]
theorem ranges_step (q : Nat → Bool) (lo b : Nat) (z : UInt8) (hb : lo ≤ b) (hz : z.toNat = b) : anyP [fun x => q x || decide (lo ≤ x ∧ x < b), inB [z]] = fun x => q x || decide (lo ≤ x ∧ x < b + 1) := by
  funext x
  have e : decide (lo ≤ x ∧ x < b + 1) = (decide (lo ≤ x ∧ x < b) || decide (x = b)) := by
    rw [← Bool.decide_or, decide_eq_decide]; omega
  simp only [anyP, inB, List.any_cons, List.any_nil, Bool.or_false, hz, e, Bool.or_assoc]

def SetAt (w : World) (g : Nat) (p : Nat → Bool) : Prop :=
  w.cell? ⟨g, 0, none⟩ = some (.int .u64 (word p 0)) ∧ w.cell? ⟨g, 1, none⟩ = some (.int .u64 (word p 1)) ∧ w.cell? ⟨g, 2, none⟩ = some (.int .u64 (word p 2)) ∧ w.cell? ⟨g, 3, none⟩ = some (.int .u64 (word p 3))

theorem Union_two (p q : Nat → Bool) (w4 : World) :
    Calls Tryz.prog 128 #[.slice (some ⟨w4.heap.size, 0, none⟩) 2 2] (w4.alloc (.cells #[.int .u64 (word p 0), .int .u64 (word p 1), .int .u64 (word p 2), .int .u64 (word p 3), .int .u64 (word q 0), .int .u64 (word q 1), .int .u64 (word q 2), .int .u64 (word q 3)] 141)) fun e w5 =>
      e = .returned (.agg #[.int .u64 (word (anyP [p, q]) 0), .int .u64 (word (anyP [p, q]) 1), .int .u64 (word (anyP [p, q]) 2), .int .u64 (word (anyP [p, q]) 3)]) ∧ Below w4.heap.size w4 w5 := by
  obtain ⟨w3, hw3⟩ : ∃ w3, w4.alloc (.cells #[.int .u64 (word p 0), .int .u64 (word p 1), .int .u64 (word p 2), .int .u64 (word p 3), .int .u64 (word q 0), .int .u64 (word q 1), .int .u64 (word q 2), .int .u64 (word q 3)] 141) = w3 := ⟨_, rfl⟩
  have hN : Blk w3 w4.heap.size 141 (setsC [p, q]).toArray := by rw [← hw3]; exact Blk.new w4 _ _
  have hb : Below w4.heap.size w4 w3 := by rw [← hw3]; exact (Below.refl _ _).alloc (Nat.le_refl _) _
  rw [hw3]
  have c := Union_any (some ⟨w4.heap.size, 0, none⟩) 2 2 [p, q] w3 ⟨by simp [setsC_len], fun _ => ⟨_, rfl, hN.lt, fun j u hu => by
    rw [Addr.add_lit, Nat.zero_add, hN.cell]
    simpa using hu⟩⟩ (by omega)
  exact c.mono fun e w5 ⟨he, hb5⟩ => ⟨he, hb.trans (hb5.mono hb.size)⟩
theorem Of_one (z : UInt8) (w4 : World) :
    Calls Tryz.prog 125 #[.slice (some ⟨w4.heap.size, 0, none⟩) 1 1] (w4.alloc (.cells #[.int .u8 z.toNat] 5)) fun e w5 =>
      e = .returned (.agg #[.int .u64 (word (inB [z]) 0), .int .u64 (word (inB [z]) 1), .int .u64 (word (inB [z]) 2), .int .u64 (word (inB [z]) 3)]) ∧ Below w4.heap.size w4 w5 := by
  obtain ⟨w3, hw3⟩ : ∃ w3, w4.alloc (.cells #[.int .u8 z.toNat] 5) = w3 := ⟨_, rfl⟩
  have hN : Blk w3 w4.heap.size 5 #[.int .u8 z.toNat] := by rw [← hw3]; exact Blk.new w4 _ _
  have hb : Below w4.heap.size w4 w3 := by rw [← hw3]; exact (Below.refl _ _).alloc (Nat.le_refl _) _
  rw [hw3]
  have c := Of_any (some ⟨w4.heap.size, 0, none⟩) 1 1 [z] w3 ⟨by simp, fun _ => ⟨_, rfl, hN.lt, fun j u hu => by
    rw [Addr.add_lit, Nat.zero_add, hN.cell]
    simpa using hu⟩⟩ (by omega)
  exact c.mono fun e w5 ⟨he, hb5⟩ => ⟨he, hb.trans (hb5.mono hb.size)⟩

theorem results_cell_row_tmp {P : Program} {fn : Func} {p u : Tmp} {ty : TypeId} (h : fn.results = #[.cell p ty, .tmp u]) (tmps : Array Value) (w : World) (g : Nat) (t : TypeId) (cs : Array Value) (fr : Nat × Nat) (d : TypeDesc)
    (hp : tmps.getD p undef = .pointer (some ⟨g, 0, none⟩)) (hg : w.heap[g]? = some (.cells cs t fr))
    (hu : P.underlying ty = some d) (hd : (match d with | .struct _ | .array _ _ => true | _ => false) = true) (hi : (P.info? ty).map (·.size) = some cs.size) :
    (results fn tmps).run P w = .ok (.tuple #[.agg cs, tmps.getD u undef]) w := by
  rw [results_cell_tmp h, hp]
  simp [asAddr, run_loadVar_row w g t ty cs fr d hg hu hd hi]
def Eight (w : World) (g : Nat) (p : Nat → Bool) : Prop :=
  (w.cell? ⟨g, 0, none⟩ = some (.int .u64 (word p 0)) ∧ w.cell? ⟨g, 1, none⟩ = some (.int .u64 (word p 1)) ∧ w.cell? ⟨g, 2, none⟩ = some (.int .u64 (word p 2)) ∧ w.cell? ⟨g, 3, none⟩ = some (.int .u64 (word p 3))) ∧
    w.frozen? ⟨g, 0, none⟩ = false ∧ w.frozen? ⟨g, 1, none⟩ = false ∧ w.frozen? ⟨g, 2, none⟩ = false ∧ w.frozen? ⟨g, 3, none⟩ = false
theorem blk_eight {w : World} {g : Nat} {t : TypeId} {p : Nat → Bool} (h : Blk w g t (setW p)) : Eight w g p := ⟨blk_setW h, h.frozen 0, h.frozen 1, h.frozen 2, h.frozen 3⟩

set_option maxRecDepth 100000 in
set_option maxHeartbeats 8000000 in
theorem Ranges_any (A : Option Addr) (len c : Nat) (rs : List (Nat × Nat)) (w : World) (hr : Reads w w.heap.size 2 A len (rangesC rs)) (hlen : len ≤ 9223372036854775807) (hrs : ∀ r ∈ rs, r.1 ≤ r.2 ∧ r.2 < 256) :
    Calls Tryz.prog 127 #[.slice A len c] w fun e w' => e = .returned (.tuple #[setV (inR rs), .int .i64 0]) ∧ Below w.heap.size w w' := by
  have hpl : rs.length = len := by have := hr.1; rw [rangesC_len] at this; omega
  have HR := Lib.hid hr
  have HRS := Lib.hid hrs
  clear hr hrs
  go_enter Tryz.func127, Tryz.ntmps127
  go_wp2_with fail
  go_loopw [6, 7, 10] (fun _ _ i wr => ∃ k : Nat, i = .int .i64 k ∧ k ≤ len ∧ Hid (Blk wr (w.heap.size + 1) 141 (setW (inR (rs.take k)))) ∧ Hid (Blk wr w.heap.size 141 (setW fun _ => false)) ∧ Below w.heap.size w wr) (fun _ _ i _ => len - (intOf i).toNat)
  case atStart =>
    have h0 := setW_none
    have hA := Blk.new (w.alloc (.cells (setW fun _ => false) 141)) 141 (setW fun _ => false)
    have hB := (Blk.new w 141 (setW fun _ => false)).alloc (.cells (setW fun _ => false) 141)
    have hC := ((Below.refl w.heap.size w).alloc (Nat.le_refl _) (.cells (setW fun _ => false) 141)).alloc (by simp) (.cells (setW fun _ => false) 141)
    rw [h0] at hA hB hC
    refine ⟨0, rfl, by omega, hide ?_, hide ?_, hC⟩
    · rw [show inR (rs.take 0) = fun _ => false from rfl, h0]
      simpa using hA
    · rw [h0]; exact hB
  case round =>
    obtain ⟨k, rfl, hk, HS, HZ, hb⟩ := hrel
    rename World => W0
    by_cases hlt : k < len
    · obtain ⟨ad, hA, hadb, hc⟩ := HR.out.2 (by omega)
      subst hA
      have hkl : k < rs.length := by omega
      obtain ⟨r, hr⟩ : ∃ r, rs[k]? = some r := ⟨_, List.getElem?_eq_getElem hkl⟩
      obtain ⟨ab, ao, spot⟩ := ad
      have hspot : spot = none := by simpa [Addr.add] using World.cell?_spot (hc 0 _ (rangesC_get rs 0 _ (List.getElem?_eq_getElem (by omega))).1)
      subst hspot
      have hc0 : W0.cell? ⟨ab, ao + k * 2, none⟩ = some (.int .u8 r.1) := by
        have hx : ab < w.heap.size := hadb
        rw [hb.cell (show (⟨ab, ao + k * 2, none⟩ : Addr).block < w.heap.size from hx), ← hc _ _ (rangesC_get rs k r hr).1, Addr.add_lit]; congr 2; omega
      have hc1 : W0.cell? ⟨ab, ao + k * 2 + 1, none⟩ = some (.int .u8 r.2) := by
        have hx : ab < w.heap.size := hadb
        rw [hb.cell (show (⟨ab, ao + k * 2 + 1, none⟩ : Addr).block < w.heap.size from hx), ← hc _ _ (rangesC_get rs k r hr).2, Addr.add_lit]; congr 2; omega
      have htk : rs.take (k + 1) = rs.take k ++ [r] := by rw [List.take_add_one, hr]; rfl
      have hrm := HRS.out r (List.mem_of_getElem? hr)
      obtain ⟨lo, hi⟩ := r
      simp only at hc0 hc1 hrm
      obtain ⟨hlo, hhi⟩ := hrm
      obtain ⟨q, hq⟩ : ∃ q, inR (rs.take k) = q := ⟨_, rfl⟩
      have htq : inR (rs.take (k + 1)) = fun x => q x || decide (lo ≤ x ∧ x < hi + 1) := by
        rw [htk, inR_snoc, hq]; funext x; simp only [Nat.lt_succ_iff]
      rw [hq] at HS
      have hlt0 := HS.out.lt
      clear hc hr htk
      go_wp2_with fail
      go_loopw [7] (fun b wr => ∃ n : Nat, b = .int .i64 n ∧ lo ≤ n ∧ n ≤ hi + 1 ∧ Hid (Blk wr (w.heap.size + 1) 141 (setW fun x => q x || decide (lo ≤ x ∧ x < n))) ∧ Hid (Blk wr w.heap.size 141 (setW fun _ => false)) ∧ Hid (Blk wr W0.heap.size 163 #[.int .u8 lo, .int .u8 hi]) ∧ Below w.heap.size w wr) (fun b _ => hi + 1 - (intOf b).toNat)
      case atStart =>
        refine ⟨lo, rfl, by omega, by omega, hide ?_, hide (HZ.out.alloc _), hide (Blk.new _ _ _), hb.alloc hb.size _⟩
        have e : (fun x => q x || decide (lo ≤ x ∧ x < lo)) = q := by
          funext x
          have : decide (lo ≤ x ∧ x < lo) = false := by simp
          rw [this, Bool.or_false]
        rw [e]
        exact HS.out.alloc _
      case round =>
        obtain ⟨n, rfl, hln, hnh, HM, HZ', HP, hb'⟩ := hrel
        rename World => W1
        obtain ⟨t, ht⟩ : ∃ t : Nat → Bool, (fun x => q x || decide (lo ≤ x ∧ x < n)) = t := ⟨_, rfl⟩
        rw [ht] at HM
        have hp1 : W1.cell? ⟨W0.heap.size, 1, none⟩ = some (.int .u8 hi) := HP.out.cell 1
        by_cases hn : n ≤ hi
        · obtain ⟨z, hz⟩ : ∃ z : UInt8, z.toNat = n := ⟨UInt8.ofNat n, by simp; omega⟩
          have hst := ranges_step q lo n z hln hz
          rw [ht] at hst
          have hwb : IntKind.u8.wrap (n : Int) = (n : Int) := by rw [IntKind.wrap_u8]; omega
          obtain ⟨s0, s1, s2, s3⟩ := blk_setW HM.out
          have hsl := HM.out.lt
          have cOf : Calls Tryz.prog 125 #[.slice (some ⟨W1.heap.size, 0, none⟩) 1 1] (W1.alloc (.cells #[.int .u8 n] 5)).drew fun e w5 =>
              e = .returned (.agg #[.int .u64 (word (inB [z]) 0), .int .u64 (word (inB [z]) 1), .int .u64 (word (inB [z]) 2), .int .u64 (word (inB [z]) 3)]) ∧ Below W1.heap.size W1 w5 ∧ Eight w5 (w.heap.size + 1) t ∧ Hid (Blk w5 (w.heap.size + 1) 141 (setW t)) := by
            have h := Of_one z W1.drew
            rw [hz] at h
            refine Calls.mono h ?_
            intro e w5 ⟨he, hb5⟩
            have hB := HM.out.drew.below hb5 hsl
            exact ⟨he, ((Below.refl _ W1).drew).trans hb5, blk_eight hB, hide hB⟩
          have cUn : ∀ w5 : World, Hid (Blk w5 (w.heap.size + 1) 141 (setW t)) → Calls Tryz.prog 128 #[.slice (some ⟨w5.heap.size, 0, none⟩) 2 2] (w5.alloc (.cells #[.int .u64 (word t 0), .int .u64 (word t 1), .int .u64 (word t 2), .int .u64 (word t 3), .int .u64 (word (inB [z]) 0), .int .u64 (word (inB [z]) 1), .int .u64 (word (inB [z]) 2), .int .u64 (word (inB [z]) 3)] 141)) fun e w6 =>
              e = .returned (.agg #[.int .u64 (word (anyP [t, inB [z]]) 0), .int .u64 (word (anyP [t, inB [z]]) 1), .int .u64 (word (anyP [t, inB [z]]) 2), .int .u64 (word (anyP [t, inB [z]]) 3)]) ∧ Below w5.heap.size w5 w6 ∧ Eight w6 (w.heap.size + 1) t ∧ Hid (Blk w6 (w.heap.size + 1) 141 (setW t)) := fun w5 h5 => by
            refine Calls.mono (Union_two t (inB [z]) w5) ?_
            intro e w6 ⟨he, hb6⟩
            have hB := h5.out.below hb6 h5.out.lt
            exact ⟨he, hb6, blk_eight hB, hide hB⟩
          have COF := Lib.hid cOf
          have CUN := Lib.hid cUn
          have HST := Lib.hid hst
          clear cOf cUn hst ht
          go_wp2_with fail
          go_region_with (first
            | (go_at_call 125; refine (COF.out).mono ?_; rintro r w5 ⟨rfl, hb5, ⟨⟨j0, j1, j2, j3⟩, i0, i1, i2, i3⟩, hB5⟩)
            | (go_at_call 128; refine (CUN.out _ hB5).mono ?_; rintro r w6 ⟨rfl, hb6, ⟨⟨k0, k1, k2, k3⟩, l0, l1, l2, l3⟩, hB6⟩))
          all_goals go_wp2_with fail
          all_goals (
            have hl5 := hb5.size
            have hZ6 := (HZ'.out.below hb5 HZ'.out.lt).below hb6 (by have := HZ'.out.lt; omega)
            have hP6 := (HP.out.below hb5 HP.out.lt).below hb6 (by have := HP.out.lt; omega)
            have hb6' := (hb'.trans (hb5.mono hb'.size)).trans (hb6.mono (by have := hb'.size; omega))
            refine ⟨⟨n + 1, by go_num, by omega, by omega, hide ?_, hide ?_, hide ?_, ?_⟩, by simp [intOf]; omega⟩
            · rw [← HST.out]
              exact (((hB6.out.set_ 0 _).set_ 1 _).set_ 2 _).set_ 3 _
            · exact (((hZ6.far (by simp) _).far (by simp) _).far (by simp) _).far (by simp) _
            · exact (((hP6.far (by simp; omega) _).far (by simp; omega) _).far (by simp; omega) _).far (by simp; omega) _
            · exact (((hb6'.setCell (by simp) _).setCell (by simp) _).setCell (by simp) _).setCell (by simp) _)
        · have hn5 : n = hi + 1 := by omega
          subst hn5
          go_wp2_with fail
          go_roundw
          case rel =>
            refine ⟨k + 1, by go_num, by omega, ?_, HZ', hb'⟩
            rw [htq, ht]; exact HM
          case measure => simp [intOf]; omega
    · have hkl : k = len := by omega
      subst hkl
      have hd : decide ((k : Int) < (k : Int)) = false := by simp
      have hS := HS.out
      have hZ := HZ.out
      rw [← hpl, List.take_length] at hS
      obtain ⟨s0, s1, s2, s3⟩ := blk_setW hS
      obtain ⟨z0, z1, z2, z3⟩ := blk_setW hZ
      have f0 := hZ.frozen 0; have f1 := hZ.frozen 1; have f2 := hZ.frozen 2; have f3 := hZ.frozen 3
      go_wp2_with fail
      refine bodyPost_ret (results_cell_row_tmp (p := 2) (u := 3) (ty := 141) (by kernel_rfl) _ _ w.heap.size 141 (setW (inR rs)) (0, 0) (.array 4 139) rfl ((((hZ.set_ 0 _).set_ 1 _).set_ 2 _).set_ 3 _) Tryz.underlying141 rfl (by kernel_rfl)) rfl ?_
      exact ⟨rfl, (((hb.setCell (by simp) _).setCell (by simp) _).setCell (by simp) _).setCell (by simp) _⟩
end Go.Proofs.YthhlnpfcpgfcfaaGreatDoor
