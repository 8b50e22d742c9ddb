/-
  chunked.takes: a map of functions that is laid once and read. chunked.machine.feed: the loop over the bytes. chunked.New, result. chunked.Feed. chunked.Decode, Rest. The reference of chunked bodies: step is the plain step. The reference of chunked bodies: New, Check and form of a new decoder, over. The reference of chunked bodies: Decode.
-/
import Derived.Test.YtkbihipgnlglbaaGreatDoorMc7
import Derived.Maps.OwnSet
import Derived.LoopTactic
import Derived.Test.YtkbihipgnlglbaaGreatDoorCk2
import Derived.Laws.ResultCell
import Derived.Deep.QuietTactic
import Derived.BigQuiet
import Derived.Test.YtkbihipgnlglbaaGreatDoorRc6
import Derived.Laws.StructEq
import Derived.Deep.RegionWith
namespace Go.Proofs.YtkbihipgnlglbaaGreatDoor

section
open Go.RowKit Go.ChangeMaps Go.MapKept

def fnV (f : Nat) : Value := .func (.func f) #[] #[]
/-- the first n entries of the map -/
def takesE (n : Nat) : Array MapEntry := ((List.range n).map fun i : Nat => (⟨.int .i64 (i : Int), fnV (mF i), i⟩ : MapEntry)).toArray
theorem takesE_push (n : Nat) : (takesE n).push ⟨.int .i64 (n : Int), fnV (mF n), n⟩ = takesE (n + 1) := by
  simp [takesE, List.range_succ]
theorem find_takes (k : Nat) : ∀ (n i : Nat) (f : Nat → Nat), i ≤ k → Instr.findNow (.int .i64) (.int .i64 (k : Int)) ((List.range' i n).map fun i : Nat => (⟨.int .i64 (i : Int), fnV (mF i), i⟩ : MapEntry)) (f i) = some (if k < i + n then some (f i + (k - i), fnV (mF k)) else none) := by
  intro n
  induction n with
  | zero => intro i f hi; rw [if_neg (by omega)]; rfl
  | succ n ih =>
    intro i f hi
    rw [List.range'_succ, List.map_cons]
    by_cases h : k = i
    · subst h
      rw [if_pos (by omega)]
      simp [Instr.findNow, Instr.sameNow]
    · have hne : ((k : Int) == (i : Int)) = false := by rw [beq_eq_false_iff_ne]; omega
      have := ih (i + 1) (fun j => f i + (j - i)) (by omega)
      simp only [Instr.findNow, Instr.sameNow, if_true, hne]
      rw [show f i + 1 = (fun j => f i + (j - i)) (i + 1) by simp, this]
      congr 1
      by_cases hk : k < i + (n + 1)
      · rw [if_pos (by omega), if_pos hk]
        simp only [Option.some.injEq, Prod.mk.injEq, and_true]
        omega
      · rw [if_neg (by omega), if_neg hk]
theorem find_takes0 (k n : Nat) : Instr.findNow (.int .i64) (.int .i64 (k : Int)) (takesE n).toList 0 = some (if k < n then some (k, fnV (mF k)) else none) := by
  have h := find_takes k n 0 (fun _ => 0) (by omega)
  rw [← List.range_eq_range'] at h
  simp only [takesE]
  rw [h]; simp
theorem run_key (w : World) (n : Nat) (v : Value) (e : Bool) (k : TypeId) (hk : Tryz.prog.underlying k = some (.int .i64)) : (Instr.checkKey e (n + 1) k v).run Tryz.prog w = .ok () w := by
  unfold Instr.checkKey
  simp [run_underlying hk]
theorem run_find (w : World) (k n : Nat) : (Instr.findKey 3 (.int .i64 (k : Int)) (takesE n).toList).run Tryz.prog w = .ok (if k < n then some (k, fnV (mF k)) else none) w := by
  unfold Instr.findKey
  simp [run_underlying Tryz.underlying3, find_takes0]
theorem takes_ins (w : World) (b n : Nat) (hb : w.heap[b]? = some (.map (takesE n) n)) : (Instr.mapUpdate 72 (.map (some b)) (.int .i64 (n : Int)) (fnV (mF n))).run Tryz.prog w = .ok () (setBlock w b (.map (takesE (n + 1)) (n + 1))) := by
  have h1 := run_find w n n
  rw [if_neg (by omega)] at h1
  have h2 := run_key w 9999 (.int .i64 (n : Int)) false 3 Tryz.underlying3
  simp [Instr.mapUpdate, run_underlying Tryz.underlying72, MapKept.run_getObj_map hb, h2, h1, MapKept.run_setObj_map _ hb, Result.andThen, setBlock, takesE_push]
theorem takes_look (w : World) (b n : Nat) (hb : w.heap[b]? = some (.map (takesE n) n)) (k : Nat) (hk : k < n) : (Instr.lookup 72 (.map (some b)) (.int .i64 (k : Int)) true).run Tryz.prog w = .ok (.tuple #[fnV (mF k), .bool true]) w := by
  have h1 := run_find w k n
  rw [if_pos hk] at h1
  have h2 := fun e => run_key w 9999 (.int .i64 (k : Int)) e 3 Tryz.underlying3
  simp [Instr.lookup, run_underlying Tryz.underlying72, MapKept.run_getObj_map hb, h2, h1, Result.andThen]
theorem takes_none (w : World) (b n : Nat) (hb : w.heap[b]? = some (.map (takesE n) n)) (k : Nat) (hk : n ≤ k) : (Instr.lookup 72 (.map (some b)) (.int .i64 (k : Int)) true).run Tryz.prog w = .ok (.tuple #[.nilFunc, .bool false]) w := by
  have h1 := run_find w k n
  rw [if_neg (by omega)] at h1
  have h2 := fun e => run_key w 9999 (.int .i64 (k : Int)) e 3 Tryz.underlying3
  have h3 : (zeroValue 74).run Tryz.prog w = .ok .nilFunc w := by kernel_rfl
  simp [Instr.lookup, run_underlying Tryz.underlying72, MapKept.run_getObj_map hb, h2, h1, h3, Result.andThen]
set_option maxRecDepth 100000 in
theorem pTakes (w : World) : Calls Tryz.prog 42 #[] w fun e w' => ∃ b, e = .returned (.map (some b)) ∧ w'.heap[b]? = some (.map (takesE 7) 7) ∧ Below w.heap.size w w' := by
  have hmm := @run_makeMap Tryz.prog
  obtain ⟨W, hW⟩ : ∃ W, w.alloc (.map #[] 0) = W := ⟨_, rfl⟩
  have h0 : W.heap[w.heap.size]? = some (.map (takesE 0) 0) := by rw [← hW]; exact heap_alloc_new w _
  have hb0 : Below w.heap.size w W := by rw [← hW]; exact (Below.refl _ _).alloc (Nat.le_refl _) _
  have step : ∀ (n : Nat) (w0 : World), w0.heap[w.heap.size]? = some (.map (takesE n) n) ∧ Below w.heap.size w w0 → ∃ w1 : World, (Instr.mapUpdate 72 (.map (some w.heap.size)) (.int .i64 (n : Int)) (fnV (mF n))).run Tryz.prog w0 = .ok () w1 ∧ w1.heap[w.heap.size]? = some (.map (takesE (n + 1)) (n + 1)) ∧ Below w.heap.size w w1 := fun n w0 h =>
    ⟨_, takes_ins w0 w.heap.size n h.1, heap_setBlock_same h.1 _, h.2.grown (row := some w.heap.size) ⟨rfl, rfl, rfl, by simp [setBlock], fun i _ hi => heap_setBlock_other h.1 _ (fun e => hi (by rw [e]))⟩ h.2.size (fun k hk => by injection hk with hk; omega)⟩
  obtain ⟨w1, r0, h1⟩ := step 0 W ⟨h0, hb0⟩
  obtain ⟨w2, r1, h2⟩ := step 1 w1 h1
  obtain ⟨w3, r2, h3⟩ := step 2 w2 h2
  obtain ⟨w4, r3, h4⟩ := step 3 w3 h3
  obtain ⟨w5, r4, h5⟩ := step 4 w4 h4
  obtain ⟨w6, r5, h6⟩ := step 5 w5 h5
  obtain ⟨w7, r6, h7⟩ := step 6 w6 h6
  have H7 := Lib.hid h7
  have hs : (w.alloc (.map #[] 0)) = W := hW
  clear h0 hb0 step h1 h2 h3 h4 h5 h6 h7 hW
  have r0 : (Instr.mapUpdate 72 (.map (some w.heap.size)) (.int .i64 0) (.func (.func 56) #[] #[])).run Tryz.prog W = .ok () w1 := r0
  have r1 : (Instr.mapUpdate 72 (.map (some w.heap.size)) (.int .i64 1) (.func (.func 57) #[] #[])).run Tryz.prog w1 = .ok () w2 := r1
  have r2 : (Instr.mapUpdate 72 (.map (some w.heap.size)) (.int .i64 2) (.func (.func 58) #[] #[])).run Tryz.prog w2 = .ok () w3 := r2
  have r3 : (Instr.mapUpdate 72 (.map (some w.heap.size)) (.int .i64 3) (.func (.func 59) #[] #[])).run Tryz.prog w3 = .ok () w4 := r3
  have r4 : (Instr.mapUpdate 72 (.map (some w.heap.size)) (.int .i64 4) (.func (.func 60) #[] #[])).run Tryz.prog w4 = .ok () w5 := r4
  have r5 : (Instr.mapUpdate 72 (.map (some w.heap.size)) (.int .i64 5) (.func (.func 61) #[] #[])).run Tryz.prog w5 = .ok () w6 := r5
  have r6 : (Instr.mapUpdate 72 (.map (some w.heap.size)) (.int .i64 6) (.func (.func 62) #[] #[])).run Tryz.prog w6 = .ok () w7 := r6
  go_enter Tryz.func42, Tryz.ntmps42
  go_wp2_with fail
  go_ret
  exact ⟨_, rfl, H7.out.1, H7.out.2⟩
end

section
open Go.RowKit

theorem MS.more {B0 : Nat} {W0 w w' : World} {g : Nat} {c : Ck} (h : MS B0 W0 g c w) (hb : Below w.heap.size w w') : MS B0 W0 g c w' := by
  obtain ⟨⟨K, v, hB, hBy, hk⟩, h1, h2⟩ := h
  exact ⟨⟨K, v, hB.below hb hB.lt, hBy.below hb, hk⟩, h1, h2.trans (hb.mono (by have := hB.lt; omega))⟩
theorem mF_enter (n : Nat) (hn : n < 7) : ∀ (args : Array Value) (w : World), (callFunc (mF n) args).run Tryz.prog w = .ok (.enter (mF n) args) w := by
  obtain rfl | rfl | rfl | rfl | rfl | rfl | rfl : n = 0 ∨ n = 1 ∨ n = 2 ∨ n = 3 ∨ n = 4 ∨ n = 5 ∨ n = 6 := by omega
  · exact enters_of Tryz.func56 (by kernel_rfl) rfl
  · exact enters_of Tryz.func57 (by kernel_rfl) rfl
  · exact enters_of Tryz.func58 (by kernel_rfl) rfl
  · exact enters_of Tryz.func59 (by kernel_rfl) rfl
  · exact enters_of Tryz.func60 (by kernel_rfl) rfl
  · exact enters_of Tryz.func61 (by kernel_rfl) rfl
  · exact enters_of Tryz.func62 (by kernel_rfl) rfl
theorem feed_snoc (c : Ck) (s : List UInt8) (k : Nat) (h : k < s.length) (h2 : (feedC c (s.take k)).2 = k) (h3 : overC (feedC c (s.take k)).1 = false) : feedC c (s.take (k + 1)) = (stepC (feedC c (s.take k)).1 s[k], k + 1) := by
  rw [List.take_succ_eq_append_getElem h, feed_app, h2]
  simp [feedC, h3]
theorem feed_stop (c : Ck) (s : List UInt8) (k : Nat) (h2 : (feedC c (s.take k)).2 = k) (h3 : overC (feedC c (s.take k)).1 = true) : feedC c s = ((feedC c (s.take k)).1, k) := by
  have h := feed_app (s.take k) (s.drop k) c
  rw [List.take_append_drop, feed_over h3, h2] at h
  exact h
set_option maxRecDepth 100000 in
set_option maxHeartbeats 8000000 in
theorem mFeed {B0 : Nat} {W0 w : World} {g : Nat} {c : Ck} (hc : OkC c) (h : MS B0 W0 g c w) (te : TypeId) (pe : Value) (hv : W0.cell? ⟨4, 0, none⟩ = some (.iface te pe)) (h0 : 4 < B0) (s : ByteArray) (hs : s.size ≤ 1000000000) :
    Calls Tryz.prog 33 #[.pointer (some ⟨g, 0, none⟩), .string s] w fun e w' => e = .returned (.int .i64 (feedC c s.data.toList).2) ∧ MS B0 W0 g (feedC c s.data.toList).1 w' := by
  have CT := Lib.hid (pTakes w)
  have HM := Lib.hid h
  have HC := Lib.hid hc
  clear h hc
  go_enter Tryz.func33, Tryz.ntmps33
  go_wp2_with fail
  (with_reducible refine (CT.out).mono ?_); rintro e w1 ⟨b, rfl, hm, g1⟩
  have HM := Lib.hid (HM.out.more g1)
  have HP := Lib.hid hm
  clear hm g1 CT
  go_wp2_with fail
  go_loopw [12] (fun i wr => ∃ k : Nat, i = .int .i64 k ∧ k ≤ s.size ∧ Hid ((feedC c (s.data.toList.take k)).2 = k) ∧ Hid (MS B0 W0 g (feedC c (s.data.toList.take k)).1 wr) ∧ Hid (wr.heap[b]? = some (.map (takesE 7) 7))) (fun i _ => s.size - (intOf i).toNat)
  case atStart => exact ⟨0, rfl, by omega, hide (by simp [feedC]), hide (by simpa [feedC] using HM.out), HP⟩
  case round =>
    obtain ⟨k, rfl, hk, hk2, hms, hmp⟩ := hrel
    rename World => WR
    by_cases hlt : k < s.size
    · have hok := feed_ok (s.data.toList.take k) HC.out
      obtain ⟨ck, hck⟩ : ∃ ck, (feedC c (s.data.toList.take k)).1 = ck := ⟨_, rfl⟩
      have p0 : WR.cell? ⟨g, 0, none⟩ = some (.int .i64 ck.st) := by
        obtain ⟨⟨K, v, hB, _⟩, _⟩ := hms.out
        rw [hck] at hB
        exact hB.cell 0
      cases ho : overC ck with
      | true =>
        have hL := takes_none WR b 7 hmp.out ck.st (by simp [overC] at ho; omega)
        have hfin := feed_stop c s.data.toList k hk2.out (by rw [hck]; exact ho)
        have HF := Lib.hid hfin
        clear hok hfin
        go_wp2_with fail
        go_ret
        rw [HF.out]
        exact ⟨rfl, hms.out⟩
      | false =>
        have hst : ck.st < 7 := by have := hok.st; rw [hck] at this; simp [overC] at ho; omega
        have hL := takes_look WR b 7 hmp.out ck.st hst
        have hE := mF_enter ck.st hst
        obtain ⟨x, hx⟩ : ∃ x, s[k] = x := ⟨_, rfl⟩
        have hsn := feed_snoc c s.data.toList k (by rw [size_l]; exact hlt) hk2.out (by rw [hck]; exact ho)
        rw [hck] at hsn hok
        have hms' := hms.out
        rw [hck] at hms'
        have hxx : s.data.toList[k]'(by rw [size_l]; exact hlt) = x := by rw [← hx]; simp; rfl
        rw [hxx] at hsn
        have CS := Lib.hid (mStep hok ho hms' te pe hv h0 x)
        have HS := Lib.hid hsn
        simp only [fnV] at hL
        generalize mF ck.st = F at hL hE CS
        clear hok hsn hms' hv
        go_wp2_with (go_at_fn F; refine CS.out.mono ?_)
        rintro e w2 ⟨rfl, hm2, hk3⟩
        have HM2 := Lib.hid hm2
        have HP2 := Lib.hid (hk3 b _ _ hmp.out)
        clear hm2 hk3
        go_wp2_with fail
        go_roundw
        case rel =>
          refine ⟨k + 1, by go_num, by omega, hide ?_, hide ?_, HP2⟩
          · rw [HS.out]
          · rw [HS.out]; exact HM2.out
        case measure => simp [intOf]; omega
    · obtain rfl : k = s.size := by omega
      have hd : decide ((s.size : Int) < (s.size : Int)) = false := by simp
      have e1 : s.data.toList.take s.size = s.data.toList := List.take_of_length_le (by rw [size_l]; omega)
      rw [e1] at hk2 hms
      have HX := Lib.hid (And.intro hk2 hms)
      go_wp2_with fail
      go_ret
      obtain ⟨h1, h2⟩ := HX.out
      exact ⟨by rw [h1.out]; rfl, h2.out⟩
end

section
open Go.RowKit

theorem pNew (w : World) : Calls Tryz.prog 16 #[] w fun e w' => e = .returned (.agg (ckV newC)) ∧ Below w.heap.size w w' := by
  unfold ckV ckA newC
  go_enter Tryz.func16, Tryz.ntmps16
  go_wp2_with fail
  refine bodyPost_ret (results_cell_row (p := 0) (ty := 36) (by kernel_rfl) _ _ w.heap.size 36 #[.int .i64 0, .int .i64 0, .int .i64 0, .int .i64 0, .string ⟨#[]⟩, .string ⟨#[]⟩, .int .i64 0, .int .i64 0] (0, 0) _ rfl (Blk.new w 36 _) Tryz.underlying36 rfl (by kernel_rfl)) rfl ?_
  exact ⟨rfl, (Below.refl _ _).alloc (Nat.le_refl _) _⟩
set_option maxRecDepth 100000 in
set_option maxHeartbeats 8000000 in
theorem mResult0 (st size dg left : Int) (K L : ByteArray) (lines status : Int) (v : Value) (xs : List UInt8) (g : Nat) (w : World) (hB : Blk w g 66 (mC st size dg left K L lines status v)) (hV : BytesAt w v xs) : Calls Tryz.prog 34 #[.pointer (some ⟨g, 0, none⟩)] w fun e w' => e = .returned (.agg (ckA st size dg left (bs xs) L lines status)) ∧ Below w.heap.size w w' := by
  unfold ckA
  obtain ⟨g6, cap6, rfl⟩ := hV.shape
  have g1 : Below w.heap.size w (w.alloc (.cells #[.int .i64 0, .int .i64 0, .int .i64 0, .int .i64 0, .string ⟨#[]⟩, .string ⟨#[]⟩, .int .i64 0, .int .i64 0] 36)) := (Below.refl _ _).alloc (Nat.le_refl _) _
  have g2 : Below w.heap.size w ((w.alloc (.cells #[.int .i64 0, .int .i64 0, .int .i64 0, .int .i64 0, .string ⟨#[]⟩, .string ⟨#[]⟩, .int .i64 0, .int .i64 0] 36)).alloc (.cells #[.int .i64 st, .int .i64 size, .int .i64 dg, .int .i64 left, .string K, .string L, .int .i64 lines, .int .i64 status] 36)) := g1.alloc g1.size _
  have hB1 := hB.below g1 hB.lt
  have hB2 := hB.below g2 hB.lt
  have hV2 := (hV.below g2).cells
  have p0 : (w.alloc (.cells #[.int .i64 0, .int .i64 0, .int .i64 0, .int .i64 0, .string ⟨#[]⟩, .string ⟨#[]⟩, .int .i64 0, .int .i64 0] 36)).cell? ⟨g, 0, none⟩ = some (.int .i64 st) := hB1.cell 0
  have p1 : (w.alloc (.cells #[.int .i64 0, .int .i64 0, .int .i64 0, .int .i64 0, .string ⟨#[]⟩, .string ⟨#[]⟩, .int .i64 0, .int .i64 0] 36)).cell? ⟨g, 1, none⟩ = some (.int .i64 size) := hB1.cell 1
  have p2 : (w.alloc (.cells #[.int .i64 0, .int .i64 0, .int .i64 0, .int .i64 0, .string ⟨#[]⟩, .string ⟨#[]⟩, .int .i64 0, .int .i64 0] 36)).cell? ⟨g, 2, none⟩ = some (.int .i64 dg) := hB1.cell 2
  have p3 : (w.alloc (.cells #[.int .i64 0, .int .i64 0, .int .i64 0, .int .i64 0, .string ⟨#[]⟩, .string ⟨#[]⟩, .int .i64 0, .int .i64 0] 36)).cell? ⟨g, 3, none⟩ = some (.int .i64 left) := hB1.cell 3
  have p4 : (w.alloc (.cells #[.int .i64 0, .int .i64 0, .int .i64 0, .int .i64 0, .string ⟨#[]⟩, .string ⟨#[]⟩, .int .i64 0, .int .i64 0] 36)).cell? ⟨g, 4, none⟩ = some (.string K) := hB1.cell 4
  have p5 : (w.alloc (.cells #[.int .i64 0, .int .i64 0, .int .i64 0, .int .i64 0, .string ⟨#[]⟩, .string ⟨#[]⟩, .int .i64 0, .int .i64 0] 36)).cell? ⟨g, 5, none⟩ = some (.string L) := hB1.cell 5
  have p6 : (w.alloc (.cells #[.int .i64 0, .int .i64 0, .int .i64 0, .int .i64 0, .string ⟨#[]⟩, .string ⟨#[]⟩, .int .i64 0, .int .i64 0] 36)).cell? ⟨g, 6, none⟩ = some (.int .i64 lines) := hB1.cell 6
  have p7 : (w.alloc (.cells #[.int .i64 0, .int .i64 0, .int .i64 0, .int .i64 0, .string ⟨#[]⟩, .string ⟨#[]⟩, .int .i64 0, .int .i64 0] 36)).cell? ⟨g, 7, none⟩ = some (.int .i64 status) := hB1.cell 7
  have p8 : ((w.alloc (.cells #[.int .i64 0, .int .i64 0, .int .i64 0, .int .i64 0, .string ⟨#[]⟩, .string ⟨#[]⟩, .int .i64 0, .int .i64 0] 36)).alloc (.cells #[.int .i64 st, .int .i64 size, .int .i64 dg, .int .i64 left, .string K, .string L, .int .i64 lines, .int .i64 status] 36)).cell? ⟨g, 8, none⟩ = some (.slice (some ⟨g6, 0, none⟩) xs.length cap6) := hB2.cell 8
  have hcv := run_convert_bytes_back (P := Tryz.prog) ((w.alloc (.cells #[.int .i64 0, .int .i64 0, .int .i64 0, .int .i64 0, .string ⟨#[]⟩, .string ⟨#[]⟩, .int .i64 0, .int .i64 0] 36)).alloc (.cells #[.int .i64 st, .int .i64 size, .int .i64 dg, .int .i64 left, .string K, .string L, .int .i64 lines, .int .i64 status] 36)) 42 9 5 ⟨g6, 0, none⟩ cap6 xs Tryz.underlying42 Tryz.underlying5 Tryz.underlying9 (fun j hj => hV2 j _ (by simp [Lib.byteCells, hj]))
  have hcv : (convert 42 9 (.slice (some ⟨g6, 0, none⟩) xs.length cap6)).run Tryz.prog ((w.alloc (.cells #[.int .i64 0, .int .i64 0, .int .i64 0, .int .i64 0, .string ⟨#[]⟩, .string ⟨#[]⟩, .int .i64 0, .int .i64 0] 36)).alloc (.cells #[.int .i64 st, .int .i64 size, .int .i64 dg, .int .i64 left, .string K, .string L, .int .i64 lines, .int .i64 status] 36)) = .ok (.string (bs xs)) ((w.alloc (.cells #[.int .i64 0, .int .i64 0, .int .i64 0, .int .i64 0, .string ⟨#[]⟩, .string ⟨#[]⟩, .int .i64 0, .int .i64 0] 36)).alloc (.cells #[.int .i64 st, .int .i64 size, .int .i64 dg, .int .i64 left, .string K, .string L, .int .i64 lines, .int .i64 status] 36)) := hcv
  clear hB1 hB2 hV2 g1 g2 hV hB
  go_enter Tryz.func34, Tryz.ntmps34
  go_wp2_with fail
  have b := (Blk.new w 36 #[.int .i64 st, .int .i64 size, .int .i64 dg, .int .i64 left, .string (bs xs), .string L, .int .i64 lines, .int .i64 status]).below ((Below.refl _ _).alloc (Nat.le_refl _) (.cells #[.int .i64 st, .int .i64 size, .int .i64 dg, .int .i64 left, .string (bs xs), .string L, .int .i64 lines, .int .i64 status] 36)) (by simp)
  refine bodyPost_ret (results_cell_row (p := 2) (ty := 36) (by kernel_rfl) _ _ w.heap.size 36 #[.int .i64 st, .int .i64 size, .int .i64 dg, .int .i64 left, .string (bs xs), .string L, .int .i64 lines, .int .i64 status] (0, 0) _ rfl b Tryz.underlying36 rfl (by kernel_rfl)) rfl ?_
  exact ⟨rfl, ((Below.refl _ _).alloc (Nat.le_refl _) _).alloc (by simp) _⟩
theorem mResult {B0 : Nat} {W0 w : World} {g : Nat} {c : Ck} (h : MS B0 W0 g c w) : Calls Tryz.prog 34 #[.pointer (some ⟨g, 0, none⟩)] w fun e w' => e = .returned (.agg (ckV c)) ∧ Below w.heap.size w w' := by
  obtain ⟨⟨K, v, hB, hBy, _⟩, _, _⟩ := h
  exact mResult0 _ _ _ _ K _ _ _ v c.body g w hB hBy
end

section
open Go.RowKit

theorem results_cell_tmp2 {fn : Func} {p u v : Tmp} {ty : TypeId} (h : fn.results = #[.cell p ty, .tmp u, .tmp v]) (tmps : Array Value) (P : Program) (w : World) :
    (results fn tmps).run P w =
      ((asAddr (tmps.getD p undef)).run P w).andThen fun a w₁ => ((loadVar ty a).run P w₁).andThen fun x w₂ => .ok (.tuple #[x, tmps.getD u undef, tmps.getD v undef]) w₂ := by
  simp only [results, h]
  simp [Sem.run_bind, Result.andThen]
theorem results_cell_row_tmp2 {P : Program} {fn : Func} {p u v : Tmp} {ty : TypeId} (h : fn.results = #[.cell p ty, .tmp u, .tmp v]) (tmps : Array Value) (w : World) (g : Nat) (t : TypeId) (cs : Array Value) (fr : Nat × Nat) (d : TypeDesc)
    (hp : tmps.getD p undef = .pointer (some ⟨g, 0, none⟩)) (hg : w.heap[g]? = some (.cells cs t fr))
    (hu : P.underlying ty = some d) (hd : (match d with | .struct _ | .array _ _ => true | _ => false) = true) (hi : (P.info? ty).map (·.size) = some cs.size) :
    (results fn tmps).run P w = .ok (.tuple #[.agg cs, tmps.getD u undef, tmps.getD v undef]) w := by
  rw [results_cell_tmp2 h, hp]
  simp [asAddr, run_loadVar_row w g t ty cs fr d hg hu hd hi]
theorem bytesAt_conv (w : World) (s : List UInt8) (hs : s.length ≤ 1000000) : BytesAt (Lib.bytesWorld w 5 (bs s)) (.slice (some ⟨w.heap.size, 0, none⟩) (bs s).size (grownCap w (bs s).size 0 5)) s := by
  have hge := grownCap_ge w (bs s).size 0 5
  have hle := grownCap_le_maxLen w (bs s).size 0 5 (by rw [bs_size]; unfold maxLen; omega)
  have hsz : (Lib.bytesCells w 5 (bs s)).size = grownCap w (bs s).size 0 5 := by
    have hm : ((bs s).data.map fun b => Value.int .u8 b.toNat).size = (bs s).size := Array.size_map ..
    unfold Lib.bytesCells
    rw [Array.size_append, hm, Array.size_replicate]
    omega
  refine ⟨w.heap.size, _, _, _, by rw [bs_size], Lib.bytesWorld_at_new w 5 (bs s), .inr ?_, by rw [bs_size] at hge; exact hge, hle, hsz, ?_⟩
  · rw [hsz]; exact Nat.le_refl _
  · unfold Lib.bytesCells
    rw [Array.toList_append, Array.toList_map]
    have hl : ((bs s).data.toList.map fun b => Value.int .u8 b.toNat) = Lib.byteCells s := rfl
    rw [hl]
    have hn : (Lib.byteCells s).length = s.length := byteCells_len s
    rw [← hn]
    exact List.take_left
theorem MS.start {w w2 : World} {g : Nat} {c : Ck} {v : Value} (hB : Blk w2 g 66 (mC c.st c.size c.digits c.left (bs c.body) (bs c.line) c.lines c.status v)) (hV : BytesAt w2 v c.body) (hk : ∀ k, v.ownBlock = some k → w.heap.size ≤ k) (hg : w.heap.size ≤ g) (hb : Below w.heap.size w w2) : MS w.heap.size w g c w2 := ⟨⟨_, v, hB, hV, hk⟩, hg, hb⟩
set_option maxRecDepth 100000 in
set_option maxHeartbeats 16000000 in
theorem pFeed {c : Ck} (hc : OkC c) (hCA : CleanCA (bs c.line)) (s : ByteArray) (hs : s.size ≤ 1000000000) (w : World) (te : TypeId) (pe : Value) (hv : w.cell? ⟨4, 0, none⟩ = some (.iface te pe)) : Calls Tryz.prog 21 #[.agg (ckV c), .string s] w fun e w' => e = .returned (.tuple #[.agg (ckV (feedC c s.data.toList).1), .int .i64 (feedC c s.data.toList).2, .int .i64 0]) ∧ Below w.heap.size w w' := by
  have CF := Lib.hid (fun w => pCheck hc hCA w)
  have CM := Lib.hid (fun (B0 : Nat) (W0 W : World) (g : Nat) (h : MS B0 W0 g c W) hv h0 => mFeed hc h te pe hv h0 s hs)
  have CS := Lib.hid (fun (w1 W4 : World) (g : Nat) (v : Value) hB hV hk hg hb => @MS.start w1 W4 g c v hB hV hk hg hb)
  have hbl : c.body.length ≤ 1000000 := by have := hc.body; omega
  have hV0 := Lib.hid (fun w => bytesAt_conv w c.body hbl)
  have hG : 4 < w.heap.size := Lib.lt_of_cell hv
  obtain ⟨n, hn⟩ : ∃ n, (feedC c s.data.toList).2 = n := ⟨_, rfl⟩
  obtain ⟨c2, hc2⟩ : ∃ c2, (feedC c s.data.toList).1 = c2 := ⟨_, rfl⟩
  rw [hn, hc2] at CM ⊢
  have CR := Lib.hid (fun (B0 : Nat) (W0 W : World) (g : Nat) (h : MS B0 W0 g c2 W) => mResult h)
  have CM : Hid (∀ (B0 : Nat) (W0 W : World) (g : Nat), MS B0 W0 g c W → W0.cell? ⟨4, 0, none⟩ = some (.iface te pe) → 4 < B0 → Calls Tryz.prog 33 #[.pointer (some ⟨g, 0, none⟩), .string s] W fun e w' => e = .returned (.int .i64 (n : Int)) ∧ MS B0 W0 g c2 w') := CM
  unfold ckV ckA at CF CR ⊢
  clear hn hc2 hc hCA hbl
  generalize (c.st : Int) = x0 at CF CS ⊢
  generalize (c2.st : Int) = y0 at CR ⊢
  generalize (c.size : Int) = x1 at CF CS ⊢
  generalize (c2.size : Int) = y1 at CR ⊢
  generalize (c.digits : Int) = x2 at CF CS ⊢
  generalize (c2.digits : Int) = y2 at CR ⊢
  generalize (c.left : Int) = x3 at CF CS ⊢
  generalize (c2.left : Int) = y3 at CR ⊢
  generalize (c.lines : Int) = x6 at CF CS ⊢
  generalize (c2.lines : Int) = y6 at CR ⊢
  generalize (c.status : Int) = x7 at CF CS ⊢
  generalize (c2.status : Int) = y7 at CR ⊢
  generalize bs c.line = x5 at CF CS ⊢
  generalize bs c2.line = y5 at CR ⊢
  generalize bs c2.body = y4 at CR ⊢
  generalize hx4 : bs c.body = x4 at CF CS hV0 ⊢
  generalize c.body = xb at *
  have g0 : Below w.heap.size w ((w.alloc (.cells #[.int .i64 x0, .int .i64 x1, .int .i64 x2, .int .i64 x3, .string x4, .string x5, .int .i64 x6, .int .i64 x7] 36)).alloc (.cells #[.int .i64 0, .int .i64 0, .int .i64 0, .int .i64 0, .string ⟨#[]⟩, .string ⟨#[]⟩, .int .i64 0, .int .i64 0] 36)) := ((Below.refl _ _).alloc (Nat.le_refl _) _).alloc (by simp) _
  have hb0 : Blk ((w.alloc (.cells #[.int .i64 x0, .int .i64 x1, .int .i64 x2, .int .i64 x3, .string x4, .string x5, .int .i64 x6, .int .i64 x7] 36)).alloc (.cells #[.int .i64 0, .int .i64 0, .int .i64 0, .int .i64 0, .string ⟨#[]⟩, .string ⟨#[]⟩, .int .i64 0, .int .i64 0] 36)) w.heap.size 36 #[.int .i64 x0, .int .i64 x1, .int .i64 x2, .int .i64 x3, .string x4, .string x5, .int .i64 x6, .int .i64 x7] := (Blk.new w 36 _).below ((Below.refl _ _).alloc (Nat.le_refl _) _) (by simp)
  have hb1 : Blk ((w.alloc (.cells #[.int .i64 x0, .int .i64 x1, .int .i64 x2, .int .i64 x3, .string x4, .string x5, .int .i64 x6, .int .i64 x7] 36)).alloc (.cells #[.int .i64 0, .int .i64 0, .int .i64 0, .int .i64 0, .string ⟨#[]⟩, .string ⟨#[]⟩, .int .i64 0, .int .i64 0] 36)) (w.heap.size + 1) 36 #[.int .i64 0, .int .i64 0, .int .i64 0, .int .i64 0, .string ⟨#[]⟩, .string ⟨#[]⟩, .int .i64 0, .int .i64 0] := by
    have h := Blk.new (w.alloc (.cells #[.int .i64 x0, .int .i64 x1, .int .i64 x2, .int .i64 x3, .string x4, .string x5, .int .i64 x6, .int .i64 x7] 36)) 36 #[.int .i64 0, .int .i64 0, .int .i64 0, .int .i64 0, .string ⟨#[]⟩, .string ⟨#[]⟩, .int .i64 0, .int .i64 0]
    rw [World.size_alloc] at h
    exact h
  have HX := Lib.hid (And.intro g0 (And.intro hb0 hb1))
  have HV := Lib.hid hv
  clear g0 hb0 hb1 hv
  go_enter Tryz.func21, Tryz.ntmps21
  go_wp2_with fail
  (with_reducible refine (CF.out _).mono ?_); rintro e w1 ⟨rfl, g1⟩
  obtain ⟨g0, hb0, hb1⟩ := HX.out
  have hb0 := hb0.below g1 hb0.lt
  have hb1 := hb1.below g1 hb1.lt
  have g01 := g0.trans (g1.mono g0.size)
  have p0 : w1.cell? ⟨w.heap.size, 0, none⟩ = some (.int .i64 x0) := hb0.cell 0
  have p1 : w1.cell? ⟨w.heap.size, 1, none⟩ = some (.int .i64 x1) := hb0.cell 1
  have p2 : w1.cell? ⟨w.heap.size, 2, none⟩ = some (.int .i64 x2) := hb0.cell 2
  have p3 : w1.cell? ⟨w.heap.size, 3, none⟩ = some (.int .i64 x3) := hb0.cell 3
  have p4 : w1.cell? ⟨w.heap.size, 4, none⟩ = some (.string x4) := hb0.cell 4
  have p5 : w1.cell? ⟨w.heap.size, 5, none⟩ = some (.string x5) := hb0.cell 5
  have p6 : w1.cell? ⟨w.heap.size, 6, none⟩ = some (.int .i64 x6) := hb0.cell 6
  have p7 : w1.cell? ⟨w.heap.size, 7, none⟩ = some (.int .i64 x7) := hb0.cell 7
  have hcv := Lib.run_convert_string_bytes (P := Tryz.prog) w1 9 42 5 x4 (u := .string) Tryz.underlying9 Tryz.underlying42 Tryz.underlying5
  have hVB := Lib.hid (hV0.out w1)
  have hbw := Lib.bytesWorld_below w1 5 x4
  have hsz := Lib.bytesWorld_size w1 5 x4
  obtain ⟨W3, hW3⟩ : ∃ W3, W3 = Lib.bytesWorld w1 5 x4 := ⟨_, rfl⟩
  rw [← hW3] at hcv hbw hsz hVB
  clear hW3
  generalize grownCap w1 x4.size 0 5 = cap at *
  have HV1 := Lib.hid ((g01.cell hG).trans HV.out)
  have HW1 := Lib.hid (And.intro g01 (And.intro hb1 (And.intro hbw hsz)))
  have hG1 : Hid (4 < w1.heap.size) := Lib.hid (Nat.lt_of_lt_of_le hG g01.size)
  have hM := CS.out w1 _ W3.heap.size (.slice (some ⟨w1.heap.size, 0, none⟩) x4.size cap) (Blk.new W3 66 _) (hVB.out.below ((Below.refl _ _).alloc (Nat.le_refl _) (.cells #[.int .i64 x0, .int .i64 x1, .int .i64 x2, .int .i64 x3, .string x4, .string x5, .int .i64 x6, .int .i64 x7, .slice (some ⟨w1.heap.size, 0, none⟩) x4.size cap] 66))) (fun k hk => by simp [Value.ownBlock] at hk; omega) (by omega) (hbw.alloc (by omega) _)
  have HM := Lib.hid (CM.out w1.heap.size w1 _ W3.heap.size hM HV1.out hG1.out)
  have HM : Hid (Calls Tryz.prog 33 #[.pointer (some ⟨W3.heap.size, 0, none⟩), .string s] (W3.alloc (.cells #[.int .i64 x0, .int .i64 x1, .int .i64 x2, .int .i64 x3, .string x4, .string x5, .int .i64 x6, .int .i64 x7, .slice (some ⟨w1.heap.size, 0, none⟩) x4.size cap] 66)) fun e w' => e = .returned (.int .i64 (n : Int)) ∧ MS w1.heap.size w1 W3.heap.size c2 w') := HM
  clear hG g0 g1 g01 hb0 hb1 hbw hsz HX CF HV hx4 hM
  go_wp2_with fail
  (with_reducible refine (HM.out).mono ?_); rintro e w5 ⟨rfl, hM5⟩
  have HR := Lib.hid (CR.out _ _ _ _ hM5)
  have HB5 := Lib.hid hM5.below
  clear hM5
  go_wp2_with fail
  (with_reducible refine (HR.out).mono ?_); rintro e w6 ⟨rfl, g6⟩
  obtain ⟨g01, hb1, -, -⟩ := HW1.out
  have g16 := HB5.out.trans (g6.mono HB5.out.size)
  have hz := hb1.below g16 hb1.lt
  have g06 := g01.trans (g16.mono g01.size)
  have z0 : w6.cell? ⟨w.heap.size + 1, 0, none⟩ = some (.int .i64 0) := hz.cell 0
  have f0 : w6.frozen? ⟨w.heap.size + 1, 0, none⟩ = false := hz.frozen 0
  have z1 : w6.cell? ⟨w.heap.size + 1, 1, none⟩ = some (.int .i64 0) := hz.cell 1
  have f1 : w6.frozen? ⟨w.heap.size + 1, 1, none⟩ = false := hz.frozen 1
  have z2 : w6.cell? ⟨w.heap.size + 1, 2, none⟩ = some (.int .i64 0) := hz.cell 2
  have f2 : w6.frozen? ⟨w.heap.size + 1, 2, none⟩ = false := hz.frozen 2
  have z3 : w6.cell? ⟨w.heap.size + 1, 3, none⟩ = some (.int .i64 0) := hz.cell 3
  have f3 : w6.frozen? ⟨w.heap.size + 1, 3, none⟩ = false := hz.frozen 3
  have z4 : w6.cell? ⟨w.heap.size + 1, 4, none⟩ = some (.string ⟨#[]⟩) := hz.cell 4
  have f4 : w6.frozen? ⟨w.heap.size + 1, 4, none⟩ = false := hz.frozen 4
  have z5 : w6.cell? ⟨w.heap.size + 1, 5, none⟩ = some (.string ⟨#[]⟩) := hz.cell 5
  have f5 : w6.frozen? ⟨w.heap.size + 1, 5, none⟩ = false := hz.frozen 5
  have z6 : w6.cell? ⟨w.heap.size + 1, 6, none⟩ = some (.int .i64 0) := hz.cell 6
  have f6 : w6.frozen? ⟨w.heap.size + 1, 6, none⟩ = false := hz.frozen 6
  have z7 : w6.cell? ⟨w.heap.size + 1, 7, none⟩ = some (.int .i64 0) := hz.cell 7
  have f7 : w6.frozen? ⟨w.heap.size + 1, 7, none⟩ = false := hz.frozen 7
  have HZ := Lib.hid (And.intro hz g06)
  clear hz g06 g16 g6 hb1 g01
  go_wp2_with fail
  obtain ⟨hz, g06⟩ := HZ.out
  have b := ((((((((hz.set_ 0 (.int .i64 y0)).set_ 1 (.int .i64 y1)).set_ 2 (.int .i64 y2)).set_ 3 (.int .i64 y3)).set_ 4 (.string y4)).set_ 5 (.string y5)).set_ 6 (.int .i64 y6)).set_ 7 (.int .i64 y7))
  have e : (((((((((#[.int .i64 0, .int .i64 0, .int .i64 0, .int .i64 0, .string ⟨#[]⟩, .string ⟨#[]⟩, .int .i64 0, .int .i64 0] : Array Value)).setIfInBounds 0 (.int .i64 y0)).setIfInBounds 1 (.int .i64 y1)).setIfInBounds 2 (.int .i64 y2)).setIfInBounds 3 (.int .i64 y3)).setIfInBounds 4 (.string y4)).setIfInBounds 5 (.string y5)).setIfInBounds 6 (.int .i64 y6)).setIfInBounds 7 (.int .i64 y7) = #[.int .i64 y0, .int .i64 y1, .int .i64 y2, .int .i64 y3, .string y4, .string y5, .int .i64 y6, .int .i64 y7] := by simp
  rw [e] at b
  refine bodyPost_ret (results_cell_row_tmp2 (p := 4) (u := 5) (v := 6) (ty := 36) (by kernel_rfl) _ _ (w.heap.size + 1) 36 #[.int .i64 y0, .int .i64 y1, .int .i64 y2, .int .i64 y3, .string y4, .string y5, .int .i64 y6, .int .i64 y7] (0, 0) _ rfl b Tryz.underlying36 rfl (by kernel_rfl)) rfl ?_
  exact ⟨rfl, ((((((((g06.setCell (by simp) _).setCell (by simp) _).setCell (by simp) _).setCell (by simp) _).setCell (by simp) _).setCell (by simp) _).setCell (by simp) _).setCell (by simp) _)⟩
end

section
open Go.RowKit

theorem cleanCA_nil : CleanCA (bs newC.line) := cleanCA_ascii [] (by simp) (by simp) (by simp)
/-- that strconv.ErrSyntax holds an error -/
def ErrS (w : World) : Prop := ∃ te pe, w.cell? ⟨4, 0, none⟩ = some (.iface te pe)
theorem ErrS.below {w w' : World} (h : ErrS w) (hb : Below w.heap.size w w') : ErrS w' := by
  obtain ⟨te, pe, hv⟩ := h
  exact ⟨te, pe, (hb.cell (Lib.lt_of_cell hv)).trans hv⟩
theorem pFeedC {c : Ck} (hc : OkC c) (hCA : CleanCA (bs c.line)) (s : ByteArray) (hs : s.size ≤ 1000000000) (w : World) (hE : ErrS w) : Calls Tryz.prog 21 #[.agg (ckV c), .string s] w fun e w' => e = .returned (.tuple #[.agg (ckV (feedC c s.data.toList).1), .int .i64 (feedC c s.data.toList).2, .int .i64 0]) ∧ Below w.heap.size w w' := by
  obtain ⟨te, pe, hv⟩ := hE
  exact pFeed hc hCA s hs w te pe hv
set_option maxRecDepth 100000 in
set_option maxHeartbeats 8000000 in
theorem pDecode (s : ByteArray) (hs : s.size ≤ 1000000000) (w : World) (hE : ErrS w) : Calls Tryz.prog 9 #[.string s] w fun e w' => e = .returned (.tuple #[.string (bs (decodeT s.data.toList).1), .int .i64 (decodeT s.data.toList).2.1, .int .i64 (decodeT s.data.toList).2.2]) ∧ Below w.heap.size w w' := by
  have CN := Lib.hid (fun w => pNew w)
  have CF := Lib.hid (fun w hE => pFeedC okC_new cleanCA_nil s hs w hE)
  have HE := Lib.hid hE
  clear hE
  unfold decodeT
  obtain ⟨n, hn⟩ : ∃ n, (feedC newC s.data.toList).2 = n := ⟨_, rfl⟩
  obtain ⟨c2, hc2⟩ : ∃ c2, (feedC newC s.data.toList).1 = c2 := ⟨_, rfl⟩
  rw [hn, hc2] at CF ⊢
  have CF : Hid (∀ w, ErrS w → Calls Tryz.prog 21 #[.agg (ckV newC), .string s] w fun e w' => e = .returned (.tuple #[.agg (ckV c2), .int .i64 n, .int .i64 0]) ∧ Below w.heap.size w w') := CF
  clear hn hc2
  generalize ckV newC = N at CN CF
  obtain ⟨st2, hst2⟩ : ∃ k, c2.st = k := ⟨_, rfl⟩
  rw [hst2]
  unfold ckV ckA at CF
  rw [hst2] at CF
  clear hst2
  by_cases h7 : st2 = 7
  · simp only [if_pos h7]
    subst h7
    have e7 : (((7 : Nat) : Int) == 7) = true := rfl
    generalize (c2.size : Int) = y1 at CF ⊢
    generalize (c2.digits : Int) = y2 at CF ⊢
    generalize (c2.left : Int) = y3 at CF ⊢
    generalize (c2.lines : Int) = y6 at CF ⊢
    generalize (c2.status : Int) = y7 at CF ⊢
    generalize bs c2.line = y5 at CF ⊢
    generalize bs c2.body = y4 at CF ⊢
    go_enter Tryz.func9, Tryz.ntmps9
    go_wp2_with fail
    (with_reducible refine (CN.out _).mono ?_); rintro e w1 ⟨rfl, g1⟩
    have CG := Lib.hid (CF.out w1 (HE.out.below g1))
    have G1 := Lib.hid g1
    clear g1
    go_wp2_with fail
    (with_reducible refine (CG.out).mono ?_); rintro e w2 ⟨rfl, g2⟩
    have G2 := Lib.hid (G1.out.trans (g2.mono G1.out.size))
    clear g2
    go_wp2_with fail
    go_ret3
    exact ⟨rfl, G2.out.alloc G2.out.size _⟩
  · simp only [if_neg h7]
    have e7 : ((st2 : Int) == 7) = false := by rw [beq_eq_false_iff_ne]; omega
    by_cases h8 : st2 = 8
    · simp only [if_pos h8]
      have e8 : ((st2 : Int) == 8) = true := by rw [beq_iff_eq]; omega
      clear h7 h8
      generalize (st2 : Int) = y0 at *
      generalize (c2.size : Int) = y1 at CF ⊢
      generalize (c2.digits : Int) = y2 at CF ⊢
      generalize (c2.left : Int) = y3 at CF ⊢
      generalize (c2.lines : Int) = y6 at CF ⊢
      generalize (c2.status : Int) = y7 at CF ⊢
      generalize bs c2.line = y5 at CF ⊢
      generalize bs c2.body = y4 at CF ⊢
      go_enter Tryz.func9, Tryz.ntmps9
      go_wp2_with fail
      (with_reducible refine (CN.out _).mono ?_); rintro e w1 ⟨rfl, g1⟩
      have CG := Lib.hid (CF.out w1 (HE.out.below g1))
      have G1 := Lib.hid g1
      clear g1
      go_wp2_with fail
      (with_reducible refine (CG.out).mono ?_); rintro e w2 ⟨rfl, g2⟩
      have G2 := Lib.hid (G1.out.trans (g2.mono G1.out.size))
      clear g2
      have p7 : (w2.alloc (.cells #[.int .i64 y0, .int .i64 y1, .int .i64 y2, .int .i64 y3, .string y4, .string y5, .int .i64 y6, .int .i64 y7] 36)).cell? ⟨w2.heap.size, 7, none⟩ = some (.int .i64 y7) := by rw [World.cell?_alloc_new]; rfl
      go_wp2_with fail
      go_quiet (fail)
      go_wp2_with fail
      go_ret3
      exact ⟨rfl, below_drewN (G2.out.alloc G2.out.size _) _⟩
    · simp only [if_neg h8]
      have e8 : ((st2 : Int) == 8) = false := by rw [beq_eq_false_iff_ne]; omega
      clear h7 h8
      generalize (st2 : Int) = y0 at *
      generalize (c2.size : Int) = y1 at CF ⊢
      generalize (c2.digits : Int) = y2 at CF ⊢
      generalize (c2.left : Int) = y3 at CF ⊢
      generalize (c2.lines : Int) = y6 at CF ⊢
      generalize (c2.status : Int) = y7 at CF ⊢
      generalize bs c2.line = y5 at CF ⊢
      generalize bs c2.body = y4 at CF ⊢
      go_enter Tryz.func9, Tryz.ntmps9
      go_wp2_with fail
      (with_reducible refine (CN.out _).mono ?_); rintro e w1 ⟨rfl, g1⟩
      have CG := Lib.hid (CF.out w1 (HE.out.below g1))
      have G1 := Lib.hid g1
      clear g1
      go_wp2_with fail
      (with_reducible refine (CG.out).mono ?_); rintro e w2 ⟨rfl, g2⟩
      have G2 := Lib.hid (G1.out.trans (g2.mono G1.out.size))
      clear g2
      go_wp2_with fail
      go_ret3
      exact ⟨rfl, G2.out.alloc G2.out.size _⟩
set_option maxRecDepth 100000 in
set_option maxHeartbeats 8000000 in
theorem pRest {c : Ck} (hc : OkC c) (hCA : CleanCA (bs c.line)) (w : World) : Calls Tryz.prog 15 #[.agg (ckV c)] w fun e w' => e = .returned (.tuple #[.int .i64 (restC c), .int .i64 0]) ∧ Below w.heap.size w w' := by
  have CF := Lib.hid (fun w => pCheck hc hCA w)
  have hb := hc.body
  have hr : ((restC c : Nat) : Int) = (2048 : Int) - ((bs c.body).size : Int) - (c.left : Int) := by unfold restC; rw [bs_size]; omega
  have m1 : IntKind.i64.wrap ((2048 : Int) - ((bs c.body).size : Int)) = (2048 : Int) - ((bs c.body).size : Int) := by rw [IntKind.wrap_i64, bs_size]; omega
  have m2 : IntKind.i64.wrap ((2048 : Int) - ((bs c.body).size : Int) - (c.left : Int)) = (2048 : Int) - ((bs c.body).size : Int) - (c.left : Int) := by rw [IntKind.wrap_i64, bs_size]; omega
  rw [hr]
  unfold ckV ckA at CF ⊢
  clear hc hCA hb hr
  generalize (c.st : Int) = x0 at *
  generalize (c.size : Int) = x1 at *
  generalize (c.digits : Int) = x2 at *
  generalize (c.left : Int) = x3 at *
  generalize (c.lines : Int) = x6 at *
  generalize (c.status : Int) = x7 at *
  generalize bs c.line = x5 at *
  generalize bs c.body = x4 at *
  have g0 : Below w.heap.size w (w.alloc (.cells #[.int .i64 x0, .int .i64 x1, .int .i64 x2, .int .i64 x3, .string x4, .string x5, .int .i64 x6, .int .i64 x7] 36)) := (Below.refl _ _).alloc (Nat.le_refl _) _
  have hb0 : Blk (w.alloc (.cells #[.int .i64 x0, .int .i64 x1, .int .i64 x2, .int .i64 x3, .string x4, .string x5, .int .i64 x6, .int .i64 x7] 36)) w.heap.size 36 #[.int .i64 x0, .int .i64 x1, .int .i64 x2, .int .i64 x3, .string x4, .string x5, .int .i64 x6, .int .i64 x7] := Blk.new w 36 _
  have HX := Lib.hid (And.intro g0 hb0)
  clear g0 hb0
  go_enter Tryz.func15, Tryz.ntmps15
  go_wp2_with fail
  (with_reducible refine (CF.out _).mono ?_); rintro e w1 ⟨rfl, g1⟩
  obtain ⟨g0, hb0⟩ := HX.out
  have hb0 := hb0.below g1 hb0.lt
  have p4 : w1.cell? ⟨w.heap.size, 4, none⟩ = some (.string x4) := hb0.cell 4
  have p3 : w1.cell? ⟨w.heap.size, 3, none⟩ = some (.int .i64 x3) := hb0.cell 3
  have HG := Lib.hid (g0.trans (g1.mono g0.size))
  clear g0 g1 hb0 HX
  go_wp2_with fail
  go_ret2
  exact ⟨rfl, HG.out⟩
end

section
open Go.RowKit

set_option maxHeartbeats 4000000 in
theorem rStep {c : Ck} (hc : OkC c) (ho : overC c = false) (b : UInt8) (w : World) : Calls Tryz.prog 39 #[.agg (ckV c), .int .u8 (b.toNat : Int)] w fun e w' => e = .returned (.agg (ckV (stepC c b))) ∧ Below w.heap.size w w' := by
  have h13 : ((b.toNat : Int) = 13) ↔ b = 13 := u8_is b 13 (by omega)
  have h10 : ((b.toNat : Int) = 10) ↔ b = 10 := u8_is b 10 (by omega)
  have hst := hc.st
  have hsz := size_ok hc
  have hdg := hc.digits
  have hbd := hc.body
  have hln := hc.len
  have hmx := hc.max
  obtain ⟨st, size, digits, left, body, line, lines, status⟩ := c
  simp only at *
  have hno : st ≠ 7 ∧ st ≠ 8 := by simpa [overC] using ho
  have hcase : st = 0 ∨ st = 1 ∨ st = 2 ∨ st = 3 ∨ st = 4 ∨ st = 5 ∨ st = 6 := by omega
  have T : ∀ (V : Array Value) (c' : Ck), V = ckV c' → Calls Tryz.prog 39 #[.agg (ckV ⟨st, size, digits, left, body, line, lines, status⟩), .int .u8 (b.toNat : Int)] w (fun e w' => e = .returned (.agg V) ∧ Below w.heap.size w w') → Calls Tryz.prog 39 #[.agg (ckV ⟨st, size, digits, left, body, line, lines, status⟩), .int .u8 (b.toNat : Int)] w (fun e w' => e = .returned (.agg (ckV c')) ∧ Below w.heap.size w w') := by rintro _ c' rfl h; exact h
  have hB : (bs body).size ≤ 2048 := by rw [bs_size]; omega
  have hL : (bs line).size ≤ 1000 := by rw [bs_size]; omega
  have K : ∀ (c1 : Ck), ckV (badC c1 400) = ckA 8 0 0 0 (bs c1.body) ⟨#[]⟩ 0 400 := fun _ => rfl
  have RB : ∀ s w, Calls Tryz.prog 50 #[.agg (ckA st size digits left (bs body) (bs line) lines status), .int .i64 s] w fun e w' => e = .returned (.agg (ckA 8 0 0 0 (bs body) ⟨#[]⟩ 0 s)) ∧ Below w.heap.size w w' := fun s w => rBad _ _ _ _ _ _ _ _ s w
  rcases hcase with rfl | rfl | rfl | rfl | rfl | rfl | rfl
  · have hd : -1 ≤ digI b ∧ digI b ≤ 15 := by
      unfold digI
      split
      · rename_i v hv; have := hexV_lt hv; omega
      · omega
    unfold stepC
    simp only [if_pos]
    cases hx : hexV b with
    | some d =>
      have hd16 := hexV_lt hx
      have hdi : digI b = d := by unfold digI; rw [hx]
      have h13' : ¬ (b.toNat : Int) = 13 := fun e => by rw [h13.1 e, show hexV 13 = none from rfl] at hx; cases hx
      simp only
      by_cases h8 : digits < 8
      · rw [if_pos h8]
        exact T _ _ (by simp [ckV, hdi]) (sDigit size digits left (bs body) (bs line) lines status b w (by omega) (by omega) (by omega) (by omega) (by omega) (by omega))
      · rw [if_neg h8]
        exact T _ _ (K _).symm (sBad01 _ _ _ _ _ _ _ _ _ _ _ _ _ _ _ b w (by first | omega | (dsimp only; omega)) (by first | omega | (dsimp only; omega)) h13' (RB 400))
    | none =>
      have hdi : digI b = -1 := by unfold digI; rw [hx]
      simp only
      by_cases q1 : b = 13
      · by_cases q2 : 0 < digits
        · rw [if_pos ⟨q1, q2⟩]
          exact T _ _ rfl (sCR size digits left (bs body) (bs line) lines status b w (by omega) (h13.2 q1) (by omega))
        · rw [if_neg (fun h => q2 h.2)]
          exact T _ _ (K _).symm (sBad03 _ _ _ _ _ _ _ _ _ _ _ _ _ _ _ b w (by first | omega | (dsimp only; omega)) (h13.2 q1) (by first | omega | (dsimp only; omega)) (RB 400))
      · rw [if_neg (fun h => q1 h.1)]
        exact T _ _ (K _).symm (sBad02 _ _ _ _ _ _ _ _ _ _ _ _ _ _ _ b w (by first | omega | (dsimp only; omega)) (fun h => q1 (h13.1 h)) (RB 400))
  · have E : stepC ⟨1, size, digits, left, body, line, lines, status⟩ b = if b ≠ 10 then badC ⟨1, size, digits, left, body, line, lines, status⟩ 400 else if size = 0 then ⟨5, 0, 0, 0, body, [], 0, 0⟩ else if 2048 < body.length + size then badC ⟨1, size, digits, left, body, line, lines, status⟩ 413 else ⟨2, 0, 0, size, body, [], 0, 0⟩ := by simp [stepC]
    rw [E]
    by_cases q1 : b = 10
    · rw [if_neg (fun h => h q1)]
      have S := fun w => rSized 1 digits left size (bs body) (bs line) lines status w hB hsz
      rw [bs_size] at S
      have S' := fun V (hV : (if size = 0 then ckA 5 0 0 0 (bs body) ⟨#[]⟩ 0 0 else if 2048 < body.length + size then ckA 8 0 0 0 (bs body) ⟨#[]⟩ 0 413 else ckA 2 0 0 size (bs body) ⟨#[]⟩ 0 0) = V) => hV ▸ S
      by_cases q2 : size = 0
      · rw [if_pos q2]
        exact T _ _ rfl (sSized _ _ _ _ _ _ _ 5 0 0 0 (bs body) ⟨#[]⟩ 0 0 b w (h10.2 q1) (S' _ (by rw [if_pos q2])))
      · rw [if_neg q2]
        by_cases q3 : 2048 < body.length + size
        · rw [if_pos q3]
          exact T _ _ rfl (sSized _ _ _ _ _ _ _ 8 0 0 0 (bs body) ⟨#[]⟩ 0 413 b w (h10.2 q1) (S' _ (by rw [if_neg q2, if_pos q3])))
        · rw [if_neg q3]
          exact T _ _ rfl (sSized _ _ _ _ _ _ _ 2 0 0 size (bs body) ⟨#[]⟩ 0 0 b w (h10.2 q1) (S' _ (by rw [if_neg q2, if_neg q3])))
    · rw [if_pos q1]
      exact T _ _ (K _).symm (sBad1 _ _ _ _ _ _ _ _ _ _ _ _ _ _ _ b w (fun h => q1 (h10.1 h)) (RB 400))
  · have hl0 : lines = 0 := by have := hc.lines; simp at this; omega
    have hz0 : size = 0 ∧ digits = 0 := by have := hc.sized; simp at this; omega
    have hle : 0 < left := by have := hc.left; simpa using this
    have hli : line = [] := by have := hc.line; simpa using this
    have hsa : status = 0 := by have := hc.bad; simp at this; omega
    obtain ⟨rfl, rfl⟩ := hz0
    subst hl0 hli hsa
    have E : stepC ⟨2, 0, 0, left, body, [], 0, 0⟩ b = ⟨if left = 1 then 3 else 2, 0, 0, left - 1, body ++ [b], [], 0, 0⟩ := by simp [stepC]
    rw [E]
    by_cases q : left = 1
    · subst q
      exact T _ _ (by rw [bs_snoc]; rfl) (sData1 _ _ _ (bs body) (bs []) _ _ b w (by first | omega | (dsimp only; omega)) rfl)
    · rw [if_neg q]
      exact T _ _ (by rw [bs_snoc]; simp only [ckV]; rw [show ((left - 1 : Nat) : Int) = (left : Int) - 1 by omega]; rfl) (sDataN _ _ _ (bs body) (bs []) _ _ b w (by first | omega | (dsimp only; omega)) (by first | omega | (dsimp only; omega)) (by first | omega | (dsimp only; omega)))
  · have hl0 : lines = 0 := by have := hc.lines; simp at this; omega
    have hz0 : size = 0 ∧ digits = 0 := by have := hc.sized; simp at this; omega
    have hle : left = 0 := by have := hc.left; simp at this; omega
    have hli : line = [] := by have := hc.line; simpa using this
    have hsa : status = 0 := by have := hc.bad; simp at this; omega
    obtain ⟨rfl, rfl⟩ := hz0
    subst hl0 hli hsa hle
    have E : stepC ⟨3, 0, 0, 0, body, [], 0, 0⟩ b = if b = 13 then ⟨4, 0, 0, 0, body, [], 0, 0⟩ else badC ⟨3, 0, 0, 0, body, [], 0, 0⟩ 400 := by simp [stepC]
    rw [E]
    by_cases q1 : b = 13
    · rw [if_pos q1]
      exact T _ _ rfl (sCR3 _ _ _ _ _ _ _ b w (h13.2 q1))
    · rw [if_neg q1]
      exact T _ _ (K _).symm (sBad3 _ _ _ _ _ _ _ _ _ _ _ _ _ _ _ b w (fun h => q1 (h13.1 h)) (RB 400))
  · have hl0 : lines = 0 := by have := hc.lines; simp at this; omega
    have hz0 : size = 0 ∧ digits = 0 := by have := hc.sized; simp at this; omega
    have hle : left = 0 := by have := hc.left; simp at this; omega
    have hli : line = [] := by have := hc.line; simpa using this
    have hsa : status = 0 := by have := hc.bad; simp at this; omega
    obtain ⟨rfl, rfl⟩ := hz0
    subst hl0 hli hsa hle
    have E : stepC ⟨4, 0, 0, 0, body, [], 0, 0⟩ b = if b = 10 then ⟨0, 0, 0, 0, body, [], 0, 0⟩ else badC ⟨4, 0, 0, 0, body, [], 0, 0⟩ 400 := by simp [stepC]
    rw [E]
    by_cases q1 : b = 10
    · rw [if_pos q1]
      exact T _ _ rfl (sLF4 _ _ _ _ _ _ _ b w (h10.2 q1))
    · rw [if_neg q1]
      exact T _ _ (K _).symm (sBad4 _ _ _ _ _ _ _ _ _ _ _ _ _ _ _ b w (fun h => q1 (h10.1 h)) (RB 400))
  · have hz0 : size = 0 ∧ digits = 0 := by have := hc.sized; simp at this; omega
    have hle : left = 0 := by have := hc.left; simp at this; omega
    have hsa : status = 0 := by have := hc.bad; simp at this; omega
    obtain ⟨rfl, rfl⟩ := hz0
    subst hle hsa
    have E : stepC ⟨5, 0, 0, 0, body, line, lines, 0⟩ b = if b = 13 then ⟨6, 0, 0, 0, body, line, lines, 0⟩ else if b = 10 then badC ⟨5, 0, 0, 0, body, line, lines, 0⟩ 400 else if (line = [] ∧ lines = 32) ∨ line.length = 512 then badC ⟨5, 0, 0, 0, body, line, lines, 0⟩ 431 else ⟨5, 0, 0, 0, body, line ++ [b], lines, 0⟩ := by simp [stepC]
    rw [E]
    have S := fun w => rTrailer 5 (0 : Nat) (0 : Nat) (0 : Nat) (bs body) (bs line) lines (0 : Nat) (b.toNat : Int) w ⟨by omega, by have := UInt8.toNat_lt b; omega⟩ hL
    have e0 : UInt8.ofNat ((b.toNat : Int)).toNat = b := by simp
    rw [e0, bs_snoc] at S
    simp only [bs_size, List.length_eq_zero_iff] at S
    have S' := fun (y0 y1 y2 y3 : Int) (y4 y5 : ByteArray) (y6 y7 : Int) (hV : (if (b.toNat : Int) = 13 then ckA 6 (0 : Nat) (0 : Nat) (0 : Nat) (bs body) (bs line) lines (0 : Nat) else if (b.toNat : Int) = 10 then ckA 8 0 0 0 (bs body) ⟨#[]⟩ 0 400 else if (line = [] ∧ lines = 32) ∨ line.length = 512 then ckA 8 0 0 0 (bs body) ⟨#[]⟩ 0 431 else ckA 5 (0 : Nat) (0 : Nat) (0 : Nat) (bs body) (bs (line ++ [b])) lines (0 : Nat)) = ckA y0 y1 y2 y3 y4 y5 y6 y7) => sTrailer _ _ _ _ _ _ _ y0 y1 y2 y3 y4 y5 y6 y7 b w (hV ▸ S)
    by_cases q1 : b = 13
    · rw [if_pos q1]
      exact T _ _ rfl (S' 6 (0 : Nat) (0 : Nat) (0 : Nat) (bs body) (bs line) lines (0 : Nat) (by rw [if_pos (h13.2 q1)]))
    · rw [if_neg q1]
      by_cases q2 : b = 10
      · rw [if_pos q2]
        exact T _ _ rfl (S' 8 0 0 0 (bs body) ⟨#[]⟩ 0 400 (by rw [if_neg (fun h => q1 (h13.1 h)), if_pos (h10.2 q2)]))
      · rw [if_neg q2]
        by_cases q3 : (line = [] ∧ lines = 32) ∨ line.length = 512
        · rw [if_pos q3]
          exact T _ _ rfl (S' 8 0 0 0 (bs body) ⟨#[]⟩ 0 431 (by rw [if_neg (fun h => q1 (h13.1 h)), if_neg (fun h => q2 (h10.1 h)), if_pos q3]))
        · rw [if_neg q3]
          exact T _ _ rfl (S' 5 (0 : Nat) (0 : Nat) (0 : Nat) (bs body) (bs (line ++ [b])) lines (0 : Nat) (by rw [if_neg (fun h => q1 (h13.1 h)), if_neg (fun h => q2 (h10.1 h)), if_neg q3]))
  · have hz0 : size = 0 ∧ digits = 0 := by have := hc.sized; simp at this; omega
    have hle : left = 0 := by have := hc.left; simp at this; omega
    have hsa : status = 0 := by have := hc.bad; simp at this; omega
    obtain ⟨rfl, rfl⟩ := hz0
    subst hle hsa
    have E : stepC ⟨6, 0, 0, 0, body, line, lines, 0⟩ b = if b ≠ 10 then badC ⟨6, 0, 0, 0, body, line, lines, 0⟩ 400 else if line = [] then ⟨7, 0, 0, 0, body, [], lines, 0⟩ else if (colT line).2.2 ≠ 0 then badC ⟨6, 0, 0, 0, body, line, lines, 0⟩ 400 else ⟨5, 0, 0, 0, body, [], lines + 1, 0⟩ := by simp [stepC]
    rw [E]
    have S := fun w => rEnded 6 (0 : Nat) (0 : Nat) (0 : Nat) (bs body) (bs line) lines (0 : Nat) w hL hmx
    simp only [bs_size, List.length_eq_zero_iff, show (bs line).data.toList = line from rfl] at S
    have S' := fun (hb : b = 10) (y0 y1 y2 y3 : Int) (y4 y5 : ByteArray) (y6 y7 : Int) (hV : (if line = [] then ckA 7 (0 : Nat) (0 : Nat) (0 : Nat) (bs body) (bs line) lines (0 : Nat) else if (colT line).2.2 ≠ 0 then ckA 8 0 0 0 (bs body) ⟨#[]⟩ 0 400 else ckA 5 0 0 0 (bs body) ⟨#[]⟩ (lines + 1 : Nat) 0) = ckA y0 y1 y2 y3 y4 y5 y6 y7) => sEnded _ _ _ _ _ _ _ y0 y1 y2 y3 y4 y5 y6 y7 b w (h10.2 hb) (hV ▸ S)
    by_cases q1 : b = 10
    · rw [if_neg (fun h => h q1)]
      by_cases q2 : line = []
      · rw [if_pos q2]
        exact T _ _ rfl (S' q1 7 (0 : Nat) (0 : Nat) (0 : Nat) (bs body) (bs []) lines (0 : Nat) (by rw [if_pos q2, q2]))
      · rw [if_neg q2]
        by_cases q3 : (colT line).2.2 ≠ 0
        · rw [if_pos q3]
          exact T _ _ rfl (S' q1 8 0 0 0 (bs body) ⟨#[]⟩ 0 400 (by rw [if_neg q2, if_pos q3]))
        · rw [if_neg q3]
          exact T _ _ rfl (S' q1 5 0 0 0 (bs body) ⟨#[]⟩ (lines + 1 : Nat) 0 (by rw [if_neg q2, if_neg q3]))
    · rw [if_pos q1]
      exact T _ _ (K _).symm (sBad6 _ _ _ _ _ _ _ _ _ _ _ _ _ _ _ b w (fun h => q1 (h10.1 h)) (RB 400))
end

section
open Go.RowKit

theorem rNew (w : World) : Calls Tryz.prog 26 #[] w fun e w' => e = .returned (.agg (ckV newC)) ∧ Below w.heap.size w w' := by
  have hz : Blk (w.alloc (.cells #[.int .i64 0, .int .i64 0, .int .i64 0, .int .i64 0, .string ⟨#[]⟩, .string ⟨#[]⟩, .int .i64 0, .int .i64 0] 36)) w.heap.size 36 #[.int .i64 0, .int .i64 0, .int .i64 0, .int .i64 0, .string ⟨#[]⟩, .string ⟨#[]⟩, .int .i64 0, .int .i64 0] := Blk.new w 36 _
  have HZ := Lib.hid hz
  clear hz
  go_enter Tryz.func26, Tryz.ntmps26
  go_wp2_with fail
  refine bodyPost_ret (results_cell_row (p := 0) (ty := 36) (by kernel_rfl) _ _ w.heap.size 36 #[.int .i64 0, .int .i64 0, .int .i64 0, .int .i64 0, .string ⟨#[]⟩, .string ⟨#[]⟩, .int .i64 0, .int .i64 0] (0, 0) _ rfl HZ.out Tryz.underlying36 rfl (by kernel_rfl)) rfl ?_
  exact ⟨rfl, (Below.refl _ _).alloc (Nat.le_refl _) _⟩
theorem rIn (n lo hi : Int) (h1 : lo ≤ n) (h2 : n ≤ hi) (w : World) : Calls Tryz.prog 30 #[.int .i64 n, .int .i64 lo, .int .i64 hi] w fun e w' => e = .returned (.bool true) ∧ w' = w := by
  go_enter Tryz.func30, Tryz.ntmps30
  go_wp2_with fail
  go_ret
  exact ⟨rfl, rfl⟩
theorem rOver (c : Ck) (w : World) : Calls Tryz.prog 38 #[.agg (ckV c)] w fun e w' => e = .returned (.bool (overC c)) ∧ Below w.heap.size w w' := by
  have ho : overC c = ((c.st : Int) == 7 || (c.st : Int) == 8) := by
    unfold overC
    have e7 : ((c.st : Int) == 7) = (c.st == 7) := by rw [Bool.eq_iff_iff]; simp; omega
    have e8 : ((c.st : Int) == 8) = (c.st == 8) := by rw [Bool.eq_iff_iff]; simp; omega
    rw [e7, e8]
  rw [ho]
  unfold ckV ckA
  generalize (c.st : Int) = y0
  go_enter Tryz.func38, Tryz.ntmps38
  cases h7 : (y0 == 7) with
  | true =>
    go_wp2_with fail
    go_ret
    exact ⟨rfl, (Below.refl _ _).alloc (Nat.le_refl _) _⟩
  | false =>
    go_wp2_with fail
    go_ret
    exact ⟨by simp, (Below.refl _ _).alloc (Nat.le_refl _) _⟩
set_option maxRecDepth 100000 in
set_option maxHeartbeats 8000000 in
theorem rFormNew (w : World) : Calls Tryz.prog 45 #[.agg (ckV newC)] w fun e w' => e = .returned (.bool true) ∧ Below w.heap.size w w' := by
  have e0 : ckV newC = #[.int .i64 0, .int .i64 0, .int .i64 0, .int .i64 0, .string ⟨#[]⟩, .string ⟨#[]⟩, .int .i64 0, .int .i64 0] := rfl
  rw [e0]
  have sz : (⟨#[]⟩ : ByteArray).size = 0 := rfl
  go_enter Tryz.func45, Tryz.ntmps45
  go_wp2_with fail
  go_loopw [4] (fun i wr => i = .int .i64 0 ∧ Hid (Blk wr w.heap.size 36 #[.int .i64 0, .int .i64 0, .int .i64 0, .int .i64 0, .string ⟨#[]⟩, .string ⟨#[]⟩, .int .i64 0, .int .i64 0] ∧ Blk wr (w.heap.size + 1) 36 #[.int .i64 0, .int .i64 0, .int .i64 0, .int .i64 0, .string ⟨#[]⟩, .string ⟨#[]⟩, .int .i64 0, .int .i64 0] ∧ Below w.heap.size w wr)) (fun i _ => 0)
  case atStart =>
    refine ⟨rfl, hide ?_⟩
    refine ⟨(Blk.new w 36 _).below ((Below.refl _ _).alloc (Nat.le_refl _) _) (by simp), ?_, ((Below.refl _ _).alloc (Nat.le_refl _) _).alloc (by simp) _⟩
    have hb := Blk.new (w.alloc (.cells #[.int .i64 0, .int .i64 0, .int .i64 0, .int .i64 0, .string ⟨#[]⟩, .string ⟨#[]⟩, .int .i64 0, .int .i64 0] 36)) 36 #[.int .i64 0, .int .i64 0, .int .i64 0, .int .i64 0, .string ⟨#[]⟩, .string ⟨#[]⟩, .int .i64 0, .int .i64 0]
    rw [World.size_alloc] at hb
    exact hb
  case round =>
    obtain ⟨rfl, hz⟩ := hrel
    rename World => WR
    obtain ⟨hx, hy, hb⟩ := hz.out
    have x1 : WR.cell? ⟨w.heap.size, 1, none⟩ = some (.int .i64 0) := hx.cell 1
    have x2 : WR.cell? ⟨w.heap.size, 2, none⟩ = some (.int .i64 0) := hx.cell 2
    have x5 : WR.cell? ⟨w.heap.size, 5, none⟩ = some (.string ⟨#[]⟩) := hx.cell 5
    have y0 : WR.cell? ⟨w.heap.size + 1, 0, none⟩ = some (.int .i64 0) := hy.cell 0
    have y1 : WR.cell? ⟨w.heap.size + 1, 1, none⟩ = some (.int .i64 0) := hy.cell 1
    have y2 : WR.cell? ⟨w.heap.size + 1, 2, none⟩ = some (.int .i64 0) := hy.cell 2
    have y3 : WR.cell? ⟨w.heap.size + 1, 3, none⟩ = some (.int .i64 0) := hy.cell 3
    have y4 : WR.cell? ⟨w.heap.size + 1, 4, none⟩ = some (.string ⟨#[]⟩) := hy.cell 4
    have y5 : WR.cell? ⟨w.heap.size + 1, 5, none⟩ = some (.string ⟨#[]⟩) := hy.cell 5
    have y6 : WR.cell? ⟨w.heap.size + 1, 6, none⟩ = some (.int .i64 0) := hy.cell 6
    have y7 : WR.cell? ⟨w.heap.size + 1, 7, none⟩ = some (.int .i64 0) := hy.cell 7
    have HB := Lib.hid hb
    clear hx hy hb hz
    go_wp2_with fail
    go_ret
    exact ⟨rfl, HB.out⟩
set_option maxRecDepth 100000 in
set_option maxHeartbeats 8000000 in
theorem rCheckNew (w : World) : Calls Tryz.prog 37 #[.agg (ckV newC)] w fun e w' => e = .returned (.int .i64 0) ∧ Below w.heap.size w w' := by
  have CF := Lib.hid (fun w => rFormNew w)
  have e0 : ckV newC = #[.int .i64 0, .int .i64 0, .int .i64 0, .int .i64 0, .string ⟨#[]⟩, .string ⟨#[]⟩, .int .i64 0, .int .i64 0] := rfl
  rw [e0] at CF ⊢
  have sz : (⟨#[]⟩ : ByteArray).size = 0 := rfl
  go_enter Tryz.func37, Tryz.ntmps37
  go_wp2_with fail
  (with_reducible refine (rIn 0 0 8 (by omega) (by omega) _).mono ?_); rintro e w' ⟨rfl, rfl⟩
  go_wp2_with fail
  (with_reducible refine (rIn 0 0 4294967295 (by omega) (by omega) _).mono ?_); rintro e w' ⟨rfl, rfl⟩
  go_wp2_with fail
  (with_reducible refine (rIn 0 0 8 (by omega) (by omega) _).mono ?_); rintro e w' ⟨rfl, rfl⟩
  go_wp2_with fail
  (with_reducible refine (rIn 0 0 2048 (by omega) (by omega) _).mono ?_); rintro e w' ⟨rfl, rfl⟩
  go_wp2_with fail
  (with_reducible refine (rIn 0 0 32 (by omega) (by omega) _).mono ?_); rintro e w' ⟨rfl, rfl⟩
  go_wp2_with fail
  (with_reducible refine (CF.out _).mono ?_); rintro e w2 ⟨rfl, g⟩
  go_wp2_with fail
  go_ret
  exact ⟨rfl, ((Below.refl _ _).alloc (Nat.le_refl _) _).trans (g.mono (by simp))⟩
set_option maxRecDepth 100000 in
set_option maxHeartbeats 16000000 in
theorem rFeed (s : ByteArray) (hs : s.size ≤ 1000000000) (w : World) : Calls Tryz.prog 25 #[.agg (ckV newC), .string s] w fun e w' => e = .returned (.tuple #[.agg (ckV (feedC newC s.data.toList).1), .int .i64 (feedC newC s.data.toList).2, .int .i64 0]) ∧ Below w.heap.size w w' := by
  have CK := Lib.hid (fun w => rCheckNew w)
  have e0 : ckV newC = #[.int .i64 0, .int .i64 0, .int .i64 0, .int .i64 0, .string ⟨#[]⟩, .string ⟨#[]⟩, .int .i64 0, .int .i64 0] := rfl
  rw [e0] at CK ⊢
  have g0 : Below w.heap.size w ((w.alloc (.cells #[.int .i64 0, .int .i64 0, .int .i64 0, .int .i64 0, .string ⟨#[]⟩, .string ⟨#[]⟩, .int .i64 0, .int .i64 0] 36)).alloc (.cells #[.int .i64 0, .int .i64 0, .int .i64 0, .int .i64 0, .string ⟨#[]⟩, .string ⟨#[]⟩, .int .i64 0, .int .i64 0] 36)) := ((Below.refl _ _).alloc (Nat.le_refl _) _).alloc (by simp) _
  have hb0 : Blk ((w.alloc (.cells #[.int .i64 0, .int .i64 0, .int .i64 0, .int .i64 0, .string ⟨#[]⟩, .string ⟨#[]⟩, .int .i64 0, .int .i64 0] 36)).alloc (.cells #[.int .i64 0, .int .i64 0, .int .i64 0, .int .i64 0, .string ⟨#[]⟩, .string ⟨#[]⟩, .int .i64 0, .int .i64 0] 36)) w.heap.size 36 #[.int .i64 0, .int .i64 0, .int .i64 0, .int .i64 0, .string ⟨#[]⟩, .string ⟨#[]⟩, .int .i64 0, .int .i64 0] := (Blk.new w 36 _).below ((Below.refl _ _).alloc (Nat.le_refl _) _) (by simp)
  have hb1 : Blk ((w.alloc (.cells #[.int .i64 0, .int .i64 0, .int .i64 0, .int .i64 0, .string ⟨#[]⟩, .string ⟨#[]⟩, .int .i64 0, .int .i64 0] 36)).alloc (.cells #[.int .i64 0, .int .i64 0, .int .i64 0, .int .i64 0, .string ⟨#[]⟩, .string ⟨#[]⟩, .int .i64 0, .int .i64 0] 36)) (w.heap.size + 1) 36 #[.int .i64 0, .int .i64 0, .int .i64 0, .int .i64 0, .string ⟨#[]⟩, .string ⟨#[]⟩, .int .i64 0, .int .i64 0] := by
    have h := Blk.new (w.alloc (.cells #[.int .i64 0, .int .i64 0, .int .i64 0, .int .i64 0, .string ⟨#[]⟩, .string ⟨#[]⟩, .int .i64 0, .int .i64 0] 36)) 36 #[.int .i64 0, .int .i64 0, .int .i64 0, .int .i64 0, .string ⟨#[]⟩, .string ⟨#[]⟩, .int .i64 0, .int .i64 0]
    rw [World.size_alloc] at h
    exact h
  have HX := Lib.hid (And.intro g0 (And.intro hb0 hb1))
  clear g0 hb0 hb1
  go_enter Tryz.func25, Tryz.ntmps25
  go_wp2_with fail
  (with_reducible refine (CK.out _).mono ?_); rintro e w1 ⟨rfl, g1⟩
  obtain ⟨g0, hb0, hb1⟩ := HX.out
  have HX := Lib.hid (And.intro (g0.trans (g1.mono g0.size)) (And.intro (hb0.below g1 hb0.lt) (hb1.below g1 hb1.lt)))
  clear g0 hb0 hb1 g1
  go_wp2_with fail
  go_loopw [8] (fun i wr => ∃ k : Nat, i = .int .i64 k ∧ k ≤ s.size ∧ Hid ((feedC newC (s.data.toList.take k)).2 = k) ∧ Hid (Below w.heap.size w wr ∧ Blk wr w.heap.size 36 (ckV (feedC newC (s.data.toList.take k)).1) ∧ Blk wr (w.heap.size + 1) 36 #[.int .i64 0, .int .i64 0, .int .i64 0, .int .i64 0, .string ⟨#[]⟩, .string ⟨#[]⟩, .int .i64 0, .int .i64 0])) (fun i _ => s.size - (intOf i).toNat)
  case atStart => exact ⟨0, rfl, by omega, hide (by simp [feedC]), hide (by simpa [feedC, e0] using HX.out)⟩
  case round =>
    obtain ⟨k, rfl, hk, hk2, hbl⟩ := hrel
    rename World => WR
    by_cases hlt : k < s.size
    · have hok := feed_ok (s.data.toList.take k) okC_new
      obtain ⟨ck, hck⟩ : ∃ ck, (feedC newC (s.data.toList.take k)).1 = ck := ⟨_, rfl⟩
      rw [hck] at hok hbl
      obtain ⟨hb, hX, hZ⟩ := hbl.out
      have CO := Lib.hid (fun w => rOver ck w)
      obtain ⟨x, hx⟩ : ∃ x, s[k] = x := ⟨_, rfl⟩
      have hxx : s.data.toList[k]'(by rw [size_l]; exact hlt) = x := by rw [← hx]; simp; rfl
      cases ho : overC ck with
      | true =>
        rw [ho] at CO
        have hfin := feed_stop newC s.data.toList k hk2.out (by rw [hck]; exact ho)
        rw [hck] at hfin
        obtain ⟨V, hV⟩ : ∃ V, V = ckV (feedC newC s.data.toList).1 := ⟨_, rfl⟩
        have hVc : V = ckV ck := by rw [hV, hfin]
        have HN : Hid ((feedC newC s.data.toList).2 = k) := Lib.hid (by rw [hfin])
        have HV := Lib.hid hV
        unfold ckV ckA at hX CO hVc
        clear hfin hck hok hx hxx hbl hV
        generalize (ck.st : Int) = y0 at hX CO hVc
        generalize (ck.size : Int) = y1 at hX CO hVc
        generalize (ck.digits : Int) = y2 at hX CO hVc
        generalize (ck.left : Int) = y3 at hX CO hVc
        generalize bs ck.body = y4 at hX CO hVc
        generalize bs ck.line = y5 at hX CO hVc
        generalize (ck.lines : Int) = y6 at hX CO hVc
        generalize (ck.status : Int) = y7 at hX CO hVc
        have HVC := Lib.hid hVc
        clear hVc
        have HX2 := Lib.hid (And.intro hb (And.intro hX hZ))
        have x0 : WR.cell? ⟨w.heap.size, 0, none⟩ = some (.int .i64 y0) := hX.cell 0
        have x1 : WR.cell? ⟨w.heap.size, 1, none⟩ = some (.int .i64 y1) := hX.cell 1
        have x2 : WR.cell? ⟨w.heap.size, 2, none⟩ = some (.int .i64 y2) := hX.cell 2
        have x3 : WR.cell? ⟨w.heap.size, 3, none⟩ = some (.int .i64 y3) := hX.cell 3
        have x4 : WR.cell? ⟨w.heap.size, 4, none⟩ = some (.string y4) := hX.cell 4
        have x5 : WR.cell? ⟨w.heap.size, 5, none⟩ = some (.string y5) := hX.cell 5
        have x6 : WR.cell? ⟨w.heap.size, 6, none⟩ = some (.int .i64 y6) := hX.cell 6
        have x7 : WR.cell? ⟨w.heap.size, 7, none⟩ = some (.int .i64 y7) := hX.cell 7
        clear hb hX hZ
        go_wp2_with fail
        (with_reducible refine (CO.out _).mono ?_); rintro e w2 ⟨rfl, g2⟩
        obtain ⟨hb, hX, hZ⟩ := HX2.out
        have hX := hX.below g2 hX.lt
        have hz := hZ.below g2 hZ.lt
        have g06 := hb.trans (g2.mono hb.size)
        have v0 : w2.cell? ⟨w.heap.size, 0, none⟩ = some (.int .i64 y0) := hX.cell 0
        have v1 : w2.cell? ⟨w.heap.size, 1, none⟩ = some (.int .i64 y1) := hX.cell 1
        have v2 : w2.cell? ⟨w.heap.size, 2, none⟩ = some (.int .i64 y2) := hX.cell 2
        have v3 : w2.cell? ⟨w.heap.size, 3, none⟩ = some (.int .i64 y3) := hX.cell 3
        have v4 : w2.cell? ⟨w.heap.size, 4, none⟩ = some (.string y4) := hX.cell 4
        have v5 : w2.cell? ⟨w.heap.size, 5, none⟩ = some (.string y5) := hX.cell 5
        have v6 : w2.cell? ⟨w.heap.size, 6, none⟩ = some (.int .i64 y6) := hX.cell 6
        have v7 : w2.cell? ⟨w.heap.size, 7, none⟩ = some (.int .i64 y7) := hX.cell 7
        have z0 : w2.cell? ⟨w.heap.size + 1, 0, none⟩ = some (.int .i64 0) := hz.cell 0
        have fz0 : w2.frozen? ⟨w.heap.size + 1, 0, none⟩ = false := hz.frozen 0
        have z1 : w2.cell? ⟨w.heap.size + 1, 1, none⟩ = some (.int .i64 0) := hz.cell 1
        have fz1 : w2.frozen? ⟨w.heap.size + 1, 1, none⟩ = false := hz.frozen 1
        have z2 : w2.cell? ⟨w.heap.size + 1, 2, none⟩ = some (.int .i64 0) := hz.cell 2
        have fz2 : w2.frozen? ⟨w.heap.size + 1, 2, none⟩ = false := hz.frozen 2
        have z3 : w2.cell? ⟨w.heap.size + 1, 3, none⟩ = some (.int .i64 0) := hz.cell 3
        have fz3 : w2.frozen? ⟨w.heap.size + 1, 3, none⟩ = false := hz.frozen 3
        have z4 : w2.cell? ⟨w.heap.size + 1, 4, none⟩ = some (.string ⟨#[]⟩) := hz.cell 4
        have fz4 : w2.frozen? ⟨w.heap.size + 1, 4, none⟩ = false := hz.frozen 4
        have z5 : w2.cell? ⟨w.heap.size + 1, 5, none⟩ = some (.string ⟨#[]⟩) := hz.cell 5
        have fz5 : w2.frozen? ⟨w.heap.size + 1, 5, none⟩ = false := hz.frozen 5
        have z6 : w2.cell? ⟨w.heap.size + 1, 6, none⟩ = some (.int .i64 0) := hz.cell 6
        have fz6 : w2.frozen? ⟨w.heap.size + 1, 6, none⟩ = false := hz.frozen 6
        have z7 : w2.cell? ⟨w.heap.size + 1, 7, none⟩ = some (.int .i64 0) := hz.cell 7
        have fz7 : w2.frozen? ⟨w.heap.size + 1, 7, none⟩ = false := hz.frozen 7
        have HZ := Lib.hid (And.intro hz g06)
        clear hz g06 g2 hX hb hZ HX2
        go_wp2_with fail
        obtain ⟨hz, g06⟩ := HZ.out
        have b := ((((((((hz.set_ 0 (.int .i64 y0)).set_ 1 (.int .i64 y1)).set_ 2 (.int .i64 y2)).set_ 3 (.int .i64 y3)).set_ 4 (.string y4)).set_ 5 (.string y5)).set_ 6 (.int .i64 y6)).set_ 7 (.int .i64 y7))
        have e : (((((((((#[.int .i64 0, .int .i64 0, .int .i64 0, .int .i64 0, .string ⟨#[]⟩, .string ⟨#[]⟩, .int .i64 0, .int .i64 0] : Array Value)).setIfInBounds 0 (.int .i64 y0)).setIfInBounds 1 (.int .i64 y1)).setIfInBounds 2 (.int .i64 y2)).setIfInBounds 3 (.int .i64 y3)).setIfInBounds 4 (.string y4)).setIfInBounds 5 (.string y5)).setIfInBounds 6 (.int .i64 y6)).setIfInBounds 7 (.int .i64 y7) = #[.int .i64 y0, .int .i64 y1, .int .i64 y2, .int .i64 y3, .string y4, .string y5, .int .i64 y6, .int .i64 y7] := by simp
        rw [e] at b
        refine bodyPost_ret (results_cell_row_tmp2 (p := 4) (u := 5) (v := 6) (ty := 36) (by kernel_rfl) _ _ (w.heap.size + 1) 36 #[.int .i64 y0, .int .i64 y1, .int .i64 y2, .int .i64 y3, .string y4, .string y5, .int .i64 y6, .int .i64 y7] (0, 0) _ rfl b Tryz.underlying36 rfl (by kernel_rfl)) rfl ?_
        refine ⟨?_, ((((((((g06.setCell (by simp) _).setCell (by simp) _).setCell (by simp) _).setCell (by simp) _).setCell (by simp) _).setCell (by simp) _).setCell (by simp) _).setCell (by simp) _)⟩
        rw [← HV.out, HN.out, HVC.out]
        rfl
      | false =>
        rw [ho] at CO
        have hsn := feed_snoc newC s.data.toList k (by rw [size_l]; exact hlt) hk2.out (by rw [hck]; exact ho)
        rw [hck, hxx] at hsn
        have CS := Lib.hid (fun w => rStep hok ho x w)
        obtain ⟨V, hV⟩ : ∃ V, V = ckV (feedC newC (s.data.toList.take (k + 1))).1 := ⟨_, rfl⟩
        have hVc : V = ckV (stepC ck x) := by rw [hV, hsn]
        have HN : Hid ((feedC newC (s.data.toList.take (k + 1))).2 = k + 1) := Lib.hid (by rw [hsn])
        have HV := Lib.hid hV
        unfold ckV ckA at hX CO CS hVc
        clear hsn hck hok hxx hbl hV ho
        generalize (ck.st : Int) = y0 at hX CO CS
        generalize (ck.size : Int) = y1 at hX CO CS
        generalize (ck.digits : Int) = y2 at hX CO CS
        generalize (ck.left : Int) = y3 at hX CO CS
        generalize bs ck.body = y4 at hX CO CS
        generalize bs ck.line = y5 at hX CO CS
        generalize (ck.lines : Int) = y6 at hX CO CS
        generalize (ck.status : Int) = y7 at hX CO CS
        generalize ((stepC ck x).st : Int) = t0 at CS hVc
        generalize ((stepC ck x).size : Int) = t1 at CS hVc
        generalize ((stepC ck x).digits : Int) = t2 at CS hVc
        generalize ((stepC ck x).left : Int) = t3 at CS hVc
        generalize bs (stepC ck x).body = t4 at CS hVc
        generalize bs (stepC ck x).line = t5 at CS hVc
        generalize ((stepC ck x).lines : Int) = t6 at CS hVc
        generalize ((stepC ck x).status : Int) = t7 at CS hVc
        have HVC := Lib.hid hVc
        clear hVc
        have HX2 := Lib.hid (And.intro hb (And.intro hX hZ))
        have x0 : WR.cell? ⟨w.heap.size, 0, none⟩ = some (.int .i64 y0) := hX.cell 0
        have x1 : WR.cell? ⟨w.heap.size, 1, none⟩ = some (.int .i64 y1) := hX.cell 1
        have x2 : WR.cell? ⟨w.heap.size, 2, none⟩ = some (.int .i64 y2) := hX.cell 2
        have x3 : WR.cell? ⟨w.heap.size, 3, none⟩ = some (.int .i64 y3) := hX.cell 3
        have x4 : WR.cell? ⟨w.heap.size, 4, none⟩ = some (.string y4) := hX.cell 4
        have x5 : WR.cell? ⟨w.heap.size, 5, none⟩ = some (.string y5) := hX.cell 5
        have x6 : WR.cell? ⟨w.heap.size, 6, none⟩ = some (.int .i64 y6) := hX.cell 6
        have x7 : WR.cell? ⟨w.heap.size, 7, none⟩ = some (.int .i64 y7) := hX.cell 7
        clear hb hX hZ
        go_wp2_with fail
        (with_reducible refine (CO.out _).mono ?_); rintro e w2 ⟨rfl, g2⟩
        obtain ⟨hb, hX, hZ⟩ := HX2.out
        have hX := hX.below g2 hX.lt
        have hZ := hZ.below g2 hZ.lt
        have g06 := hb.trans (g2.mono hb.size)
        have v0 : w2.cell? ⟨w.heap.size, 0, none⟩ = some (.int .i64 y0) := hX.cell 0
        have v1 : w2.cell? ⟨w.heap.size, 1, none⟩ = some (.int .i64 y1) := hX.cell 1
        have v2 : w2.cell? ⟨w.heap.size, 2, none⟩ = some (.int .i64 y2) := hX.cell 2
        have v3 : w2.cell? ⟨w.heap.size, 3, none⟩ = some (.int .i64 y3) := hX.cell 3
        have v4 : w2.cell? ⟨w.heap.size, 4, none⟩ = some (.string y4) := hX.cell 4
        have v5 : w2.cell? ⟨w.heap.size, 5, none⟩ = some (.string y5) := hX.cell 5
        have v6 : w2.cell? ⟨w.heap.size, 6, none⟩ = some (.int .i64 y6) := hX.cell 6
        have v7 : w2.cell? ⟨w.heap.size, 7, none⟩ = some (.int .i64 y7) := hX.cell 7
        have kS : ∀ X : World, Below w2.heap.size w2 X → Calls Tryz.prog 39 #[.agg #[.int .i64 y0, .int .i64 y1, .int .i64 y2, .int .i64 y3, .string y4, .string y5, .int .i64 y6, .int .i64 y7], .int .u8 (x.toNat : Int)] X fun e w5 => e = .returned (.agg #[.int .i64 t0, .int .i64 t1, .int .i64 t2, .int .i64 t3, .string t4, .string t5, .int .i64 t6, .int .i64 t7]) ∧ Hid (Below w2.heap.size w2 w5) ∧ w5.cell? ⟨w.heap.size, 0, none⟩ = some (.int .i64 y0) ∧ w5.frozen? ⟨w.heap.size, 0, none⟩ = false ∧ w5.cell? ⟨w.heap.size, 1, none⟩ = some (.int .i64 y1) ∧ w5.frozen? ⟨w.heap.size, 1, none⟩ = false ∧ w5.cell? ⟨w.heap.size, 2, none⟩ = some (.int .i64 y2) ∧ w5.frozen? ⟨w.heap.size, 2, none⟩ = false ∧ w5.cell? ⟨w.heap.size, 3, none⟩ = some (.int .i64 y3) ∧ w5.frozen? ⟨w.heap.size, 3, none⟩ = false ∧ w5.cell? ⟨w.heap.size, 4, none⟩ = some (.string y4) ∧ w5.frozen? ⟨w.heap.size, 4, none⟩ = false ∧ w5.cell? ⟨w.heap.size, 5, none⟩ = some (.string y5) ∧ w5.frozen? ⟨w.heap.size, 5, none⟩ = false ∧ w5.cell? ⟨w.heap.size, 6, none⟩ = some (.int .i64 y6) ∧ w5.frozen? ⟨w.heap.size, 6, none⟩ = false ∧ w5.cell? ⟨w.heap.size, 7, none⟩ = some (.int .i64 y7) ∧ w5.frozen? ⟨w.heap.size, 7, none⟩ = false := fun X hX' => (CS.out X).mono fun e w5 ⟨he, h5⟩ => by
          have hB := hX'.trans (h5.mono hX'.size)
          have h := hX.below hB hX.lt
          exact ⟨he, hide hB, h.cell 0, h.frozen 0, h.cell 1, h.frozen 1, h.cell 2, h.frozen 2, h.cell 3, h.frozen 3, h.cell 4, h.frozen 4, h.cell 5, h.frozen 5, h.cell 6, h.frozen 6, h.cell 7, h.frozen 7⟩
        have KS := Lib.hid kS
        have HX3 := Lib.hid (And.intro g06 (And.intro hX hZ))
        clear kS hb hX hZ HX2 g06 g2 CS
        go_wp2_with fail
        go_region_with (first
          | (go_at_call 39; refine (KS.out _ (by first | exact Below.refl _ _ | exact (Below.refl _ _).drew)).mono ?_; rintro e w5 ⟨rfl, hb5, c0, d0, c1, d1, c2, d2, c3, d3, c4, d4, c5, d5, c6, d6, c7, d7⟩))
        all_goals go_wp2_with fail
        all_goals (
          obtain ⟨g06, hX, hZ⟩ := HX3.out
          have hX5 := hX.below hb5.out hX.lt
          have hZ5 := hZ.below hb5.out hZ.lt
          have hb5 := g06.trans (hb5.out.mono g06.size)
          have b := ((((((((hX5.set_ 0 (.int .i64 t0)).set_ 1 (.int .i64 t1)).set_ 2 (.int .i64 t2)).set_ 3 (.int .i64 t3)).set_ 4 (.string t4)).set_ 5 (.string t5)).set_ 6 (.int .i64 t6)).set_ 7 (.int .i64 t7))
          have e : (((((((((#[.int .i64 y0, .int .i64 y1, .int .i64 y2, .int .i64 y3, .string y4, .string y5, .int .i64 y6, .int .i64 y7] : Array Value)).setIfInBounds 0 (.int .i64 t0)).setIfInBounds 1 (.int .i64 t1)).setIfInBounds 2 (.int .i64 t2)).setIfInBounds 3 (.int .i64 t3)).setIfInBounds 4 (.string t4)).setIfInBounds 5 (.string t5)).setIfInBounds 6 (.int .i64 t6)).setIfInBounds 7 (.int .i64 t7) = #[.int .i64 t0, .int .i64 t1, .int .i64 t2, .int .i64 t3, .string t4, .string t5, .int .i64 t6, .int .i64 t7] := by simp
          rw [e] at b
          refine ⟨⟨k + 1, by go_num, by omega, HN, hide ⟨((((((((hb5.setCell (by simp) _).setCell (by simp) _).setCell (by simp) _).setCell (by simp) _).setCell (by simp) _).setCell (by simp) _).setCell (by simp) _).setCell (by simp) _), ?_, ((((((((hZ5.far (by simp) _).far (by simp) _).far (by simp) _).far (by simp) _).far (by simp) _).far (by simp) _).far (by simp) _).far (by simp) _)⟩⟩, by simp [intOf]; omega⟩
          rw [← HV.out, HVC.out]
          exact b)
    · obtain rfl : k = s.size := by omega
      have hd : decide ((s.size : Int) < (s.size : Int)) = false := by simp
      have e1 : s.data.toList.take s.size = s.data.toList := List.take_of_length_le (by rw [size_l]; omega)
      rw [e1] at hk2 hbl
      obtain ⟨ck, hck⟩ : ∃ ck, (feedC newC s.data.toList).1 = ck := ⟨_, rfl⟩
      rw [hck] at hbl
      obtain ⟨hb, hX, hZ⟩ := hbl.out
      obtain ⟨V, hV⟩ : ∃ V, V = ckV (feedC newC s.data.toList).1 := ⟨_, rfl⟩
      have hVc : V = ckV ck := by rw [hV, hck]
      have HN := hk2
      have HV := Lib.hid hV
      unfold ckV ckA at hX hVc
      clear hck hbl hV hk2
      generalize (ck.st : Int) = y0 at hX hVc
      generalize (ck.size : Int) = y1 at hX hVc
      generalize (ck.digits : Int) = y2 at hX hVc
      generalize (ck.left : Int) = y3 at hX hVc
      generalize bs ck.body = y4 at hX hVc
      generalize bs ck.line = y5 at hX hVc
      generalize (ck.lines : Int) = y6 at hX hVc
      generalize (ck.status : Int) = y7 at hX hVc
      have HVC := Lib.hid hVc
      clear hVc
      have v0 : WR.cell? ⟨w.heap.size, 0, none⟩ = some (.int .i64 y0) := hX.cell 0
      have v1 : WR.cell? ⟨w.heap.size, 1, none⟩ = some (.int .i64 y1) := hX.cell 1
      have v2 : WR.cell? ⟨w.heap.size, 2, none⟩ = some (.int .i64 y2) := hX.cell 2
      have v3 : WR.cell? ⟨w.heap.size, 3, none⟩ = some (.int .i64 y3) := hX.cell 3
      have v4 : WR.cell? ⟨w.heap.size, 4, none⟩ = some (.string y4) := hX.cell 4
      have v5 : WR.cell? ⟨w.heap.size, 5, none⟩ = some (.string y5) := hX.cell 5
      have v6 : WR.cell? ⟨w.heap.size, 6, none⟩ = some (.int .i64 y6) := hX.cell 6
      have v7 : WR.cell? ⟨w.heap.size, 7, none⟩ = some (.int .i64 y7) := hX.cell 7
      have z0 : WR.cell? ⟨w.heap.size + 1, 0, none⟩ = some (.int .i64 0) := hZ.cell 0
      have fz0 : WR.frozen? ⟨w.heap.size + 1, 0, none⟩ = false := hZ.frozen 0
      have z1 : WR.cell? ⟨w.heap.size + 1, 1, none⟩ = some (.int .i64 0) := hZ.cell 1
      have fz1 : WR.frozen? ⟨w.heap.size + 1, 1, none⟩ = false := hZ.frozen 1
      have z2 : WR.cell? ⟨w.heap.size + 1, 2, none⟩ = some (.int .i64 0) := hZ.cell 2
      have fz2 : WR.frozen? ⟨w.heap.size + 1, 2, none⟩ = false := hZ.frozen 2
      have z3 : WR.cell? ⟨w.heap.size + 1, 3, none⟩ = some (.int .i64 0) := hZ.cell 3
      have fz3 : WR.frozen? ⟨w.heap.size + 1, 3, none⟩ = false := hZ.frozen 3
      have z4 : WR.cell? ⟨w.heap.size + 1, 4, none⟩ = some (.string ⟨#[]⟩) := hZ.cell 4
      have fz4 : WR.frozen? ⟨w.heap.size + 1, 4, none⟩ = false := hZ.frozen 4
      have z5 : WR.cell? ⟨w.heap.size + 1, 5, none⟩ = some (.string ⟨#[]⟩) := hZ.cell 5
      have fz5 : WR.frozen? ⟨w.heap.size + 1, 5, none⟩ = false := hZ.frozen 5
      have z6 : WR.cell? ⟨w.heap.size + 1, 6, none⟩ = some (.int .i64 0) := hZ.cell 6
      have fz6 : WR.frozen? ⟨w.heap.size + 1, 6, none⟩ = false := hZ.frozen 6
      have z7 : WR.cell? ⟨w.heap.size + 1, 7, none⟩ = some (.int .i64 0) := hZ.cell 7
      have fz7 : WR.frozen? ⟨w.heap.size + 1, 7, none⟩ = false := hZ.frozen 7
      have HZ := Lib.hid (And.intro hZ hb)
      clear hZ hb hX
      go_wp2_with fail
      obtain ⟨hz, g06⟩ := HZ.out
      have b := ((((((((hz.set_ 0 (.int .i64 y0)).set_ 1 (.int .i64 y1)).set_ 2 (.int .i64 y2)).set_ 3 (.int .i64 y3)).set_ 4 (.string y4)).set_ 5 (.string y5)).set_ 6 (.int .i64 y6)).set_ 7 (.int .i64 y7))
      have e : (((((((((#[.int .i64 0, .int .i64 0, .int .i64 0, .int .i64 0, .string ⟨#[]⟩, .string ⟨#[]⟩, .int .i64 0, .int .i64 0] : Array Value)).setIfInBounds 0 (.int .i64 y0)).setIfInBounds 1 (.int .i64 y1)).setIfInBounds 2 (.int .i64 y2)).setIfInBounds 3 (.int .i64 y3)).setIfInBounds 4 (.string y4)).setIfInBounds 5 (.string y5)).setIfInBounds 6 (.int .i64 y6)).setIfInBounds 7 (.int .i64 y7) = #[.int .i64 y0, .int .i64 y1, .int .i64 y2, .int .i64 y3, .string y4, .string y5, .int .i64 y6, .int .i64 y7] := by simp
      rw [e] at b
      refine bodyPost_ret (results_cell_row_tmp2 (p := 4) (u := 5) (v := 6) (ty := 36) (by kernel_rfl) _ _ (w.heap.size + 1) 36 #[.int .i64 y0, .int .i64 y1, .int .i64 y2, .int .i64 y3, .string y4, .string y5, .int .i64 y6, .int .i64 y7] (0, 0) _ rfl b Tryz.underlying36 rfl (by kernel_rfl)) rfl ?_
      refine ⟨?_, ((((((((g06.setCell (by simp) _).setCell (by simp) _).setCell (by simp) _).setCell (by simp) _).setCell (by simp) _).setCell (by simp) _).setCell (by simp) _).setCell (by simp) _)⟩
      rw [← HV.out, HN.out, HVC.out]
      rfl
end

section
open Go.RowKit

set_option maxRecDepth 100000 in
set_option maxHeartbeats 8000000 in
theorem rDecode (s : ByteArray) (hs : s.size ≤ 1000000000) (w : World) : Calls Tryz.prog 10 #[.string s] w fun e w' => e = .returned (.tuple #[.string (bs (decodeT s.data.toList).1), .int .i64 (decodeT s.data.toList).2.1, .int .i64 (decodeT s.data.toList).2.2]) ∧ Below w.heap.size w w' := by
  have CN := Lib.hid (fun w => rNew w)
  have CF := Lib.hid (fun w => rFeed s hs w)
  unfold decodeT
  obtain ⟨n, hn⟩ : ∃ n, (feedC newC s.data.toList).2 = n := ⟨_, rfl⟩
  obtain ⟨c2, hc2⟩ : ∃ c2, (feedC newC s.data.toList).1 = c2 := ⟨_, rfl⟩
  rw [hn, hc2] at CF ⊢
  have CF : Hid (∀ w, Calls Tryz.prog 25 #[.agg (ckV newC), .string s] w fun e w' => e = .returned (.tuple #[.agg (ckV c2), .int .i64 n, .int .i64 0]) ∧ Below w.heap.size w w') := CF
  clear hn hc2
  generalize ckV newC = N at CN CF
  obtain ⟨st2, hst2⟩ : ∃ k, c2.st = k := ⟨_, rfl⟩
  rw [hst2]
  unfold ckV ckA at CF
  rw [hst2] at CF
  clear hst2
  by_cases h7 : st2 = 7
  · simp only [if_pos h7]
    subst h7
    have e7 : (((7 : Nat) : Int) == 7) = true := rfl
    generalize (c2.size : Int) = y1 at CF ⊢
    generalize (c2.digits : Int) = y2 at CF ⊢
    generalize (c2.left : Int) = y3 at CF ⊢
    generalize (c2.lines : Int) = y6 at CF ⊢
    generalize (c2.status : Int) = y7 at CF ⊢
    generalize bs c2.line = y5 at CF ⊢
    generalize bs c2.body = y4 at CF ⊢
    go_enter Tryz.func10, Tryz.ntmps10
    go_wp2_with fail
    (with_reducible refine (CN.out _).mono ?_); rintro e w1 ⟨rfl, g1⟩
    have CG := Lib.hid (CF.out w1)
    have G1 := Lib.hid g1
    clear g1
    go_wp2_with fail
    (with_reducible refine (CG.out).mono ?_); rintro e w2 ⟨rfl, g2⟩
    have G2 := Lib.hid (G1.out.trans (g2.mono G1.out.size))
    clear g2
    go_wp2_with fail
    go_ret3
    exact ⟨rfl, G2.out.alloc G2.out.size _⟩
  · simp only [if_neg h7]
    have e7 : ((st2 : Int) == 7) = false := by rw [beq_eq_false_iff_ne]; omega
    by_cases h8 : st2 = 8
    · simp only [if_pos h8]
      have e8 : ((st2 : Int) == 8) = true := by rw [beq_iff_eq]; omega
      clear h7 h8
      generalize (st2 : Int) = y0 at *
      generalize (c2.size : Int) = y1 at CF ⊢
      generalize (c2.digits : Int) = y2 at CF ⊢
      generalize (c2.left : Int) = y3 at CF ⊢
      generalize (c2.lines : Int) = y6 at CF ⊢
      generalize (c2.status : Int) = y7 at CF ⊢
      generalize bs c2.line = y5 at CF ⊢
      generalize bs c2.body = y4 at CF ⊢
      go_enter Tryz.func10, Tryz.ntmps10
      go_wp2_with fail
      (with_reducible refine (CN.out _).mono ?_); rintro e w1 ⟨rfl, g1⟩
      have CG := Lib.hid (CF.out w1)
      have G1 := Lib.hid g1
      clear g1
      go_wp2_with fail
      (with_reducible refine (CG.out).mono ?_); rintro e w2 ⟨rfl, g2⟩
      have G2 := Lib.hid (G1.out.trans (g2.mono G1.out.size))
      clear g2
      have p7 : (w2.alloc (.cells #[.int .i64 y0, .int .i64 y1, .int .i64 y2, .int .i64 y3, .string y4, .string y5, .int .i64 y6, .int .i64 y7] 36)).cell? ⟨w2.heap.size, 7, none⟩ = some (.int .i64 y7) := by rw [World.cell?_alloc_new]; rfl
      go_wp2_with fail
      go_quiet (fail)
      go_wp2_with fail
      go_ret3
      exact ⟨rfl, below_drewN (G2.out.alloc G2.out.size _) _⟩
    · simp only [if_neg h8]
      have e8 : ((st2 : Int) == 8) = false := by rw [beq_eq_false_iff_ne]; omega
      clear h7 h8
      generalize (st2 : Int) = y0 at *
      generalize (c2.size : Int) = y1 at CF ⊢
      generalize (c2.digits : Int) = y2 at CF ⊢
      generalize (c2.left : Int) = y3 at CF ⊢
      generalize (c2.lines : Int) = y6 at CF ⊢
      generalize (c2.status : Int) = y7 at CF ⊢
      generalize bs c2.line = y5 at CF ⊢
      generalize bs c2.body = y4 at CF ⊢
      go_enter Tryz.func10, Tryz.ntmps10
      go_wp2_with fail
      (with_reducible refine (CN.out _).mono ?_); rintro e w1 ⟨rfl, g1⟩
      have CG := Lib.hid (CF.out w1)
      have G1 := Lib.hid g1
      clear g1
      go_wp2_with fail
      (with_reducible refine (CG.out).mono ?_); rintro e w2 ⟨rfl, g2⟩
      have G2 := Lib.hid (G1.out.trans (g2.mono G1.out.size))
      clear g2
      go_wp2_with fail
      go_ret3
      exact ⟨rfl, G2.out.alloc G2.out.size _⟩
end
end Go.Proofs.YtkbihipgnlglbaaGreatDoor
