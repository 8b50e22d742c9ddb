/-
  chunked.takes: a map of functions that is laid once and read. chunked.machine.feed: the loop over the bytes. chunked.New, result. chunked.Feed. chunked.Decode, Rest.
-/
import Derived.Test.YtencphfhpnljlaaGreatDoorWg2
import Derived.Maps.OwnSet
import Derived.LoopTactic
import Derived.Test.YtencphfhpnljlaaGreatDoorWg3
import Derived.Laws.ResultCell
import Derived.Deep.QuietTactic
import Derived.BigQuiet
namespace Go.Proofs.YtencphfhpnljlaaGreatDoor

section
open Go.RowKit Go.ChangeMaps Go.MapKept

def fnV (f : Nat) : Value := .func (.func f) #[] #[]
/-- the first n entries of the map -/
def takesE (n : Nat) : Array MapEntry := ((List.range n).map fun i : Nat => (⟨.int .i64 (i : Int), fnV (mF i), i⟩ : MapEntry)).toArray
theorem takesE_push (n : Nat) : (takesE n).push ⟨.int .i64 (n : Int), fnV (mF n), n⟩ = takesE (n + 1) := by
  simp [takesE, List.range_succ]
theorem find_takes (k : Nat) : ∀ (n i : Nat) (f : Nat → Nat), i ≤ k → Instr.findNow (.int .i64) (.int .i64 (k : Int)) ((List.range' i n).map fun i : Nat => (⟨.int .i64 (i : Int), fnV (mF i), i⟩ : MapEntry)) (f i) = some (if k < i + n then some (f i + (k - i), fnV (mF k)) else none) := by
  intro n
  induction n with
  | zero => intro i f hi; rw [if_neg (by omega)]; rfl
  | succ n ih =>
    intro i f hi
    rw [List.range'_succ, List.map_cons]
    by_cases h : k = i
    · subst h
      rw [if_pos (by omega)]
      simp [Instr.findNow, Instr.sameNow]
    · have hne : ((k : Int) == (i : Int)) = false := by rw [beq_eq_false_iff_ne]; omega
      have := ih (i + 1) (fun j => f i + (j - i)) (by omega)
      simp only [Instr.findNow, Instr.sameNow, if_true, hne]
      rw [show f i + 1 = (fun j => f i + (j - i)) (i + 1) by simp, this]
      congr 1
      by_cases hk : k < i + (n + 1)
      · rw [if_pos (by omega), if_pos hk]
        simp only [Option.some.injEq, Prod.mk.injEq, and_true]
        omega
      · rw [if_neg (by omega), if_neg hk]
theorem find_takes0 (k n : Nat) : Instr.findNow (.int .i64) (.int .i64 (k : Int)) (takesE n).toList 0 = some (if k < n then some (k, fnV (mF k)) else none) := by
  have h := find_takes k n 0 (fun _ => 0) (by omega)
  rw [← List.range_eq_range'] at h
  simp only [takesE]
  rw [h]; simp
theorem run_key (w : World) (n : Nat) (v : Value) (e : Bool) (k : TypeId) (hk : Tryz.prog.underlying k = some (.int .i64)) : (Instr.checkKey e (n + 1) k v).run Tryz.prog w = .ok () w := by
  unfold Instr.checkKey
  simp [run_underlying hk]
theorem run_find (w : World) (k n : Nat) : (Instr.findKey 3 (.int .i64 (k : Int)) (takesE n).toList).run Tryz.prog w = .ok (if k < n then some (k, fnV (mF k)) else none) w := by
  unfold Instr.findKey
  simp [run_underlying Tryz.underlying3, find_takes0]
theorem takes_ins (w : World) (b n : Nat) (hb : w.heap[b]? = some (.map (takesE n) n)) : (Instr.mapUpdate 214 (.map (some b)) (.int .i64 (n : Int)) (fnV (mF n))).run Tryz.prog w = .ok () (setBlock w b (.map (takesE (n + 1)) (n + 1))) := by
  have h1 := run_find w n n
  rw [if_neg (by omega)] at h1
  have h2 := run_key w 9999 (.int .i64 (n : Int)) false 3 Tryz.underlying3
  simp [Instr.mapUpdate, run_underlying Tryz.underlying214, MapKept.run_getObj_map hb, h2, h1, MapKept.run_setObj_map _ hb, Result.andThen, setBlock, takesE_push]
theorem takes_look (w : World) (b n : Nat) (hb : w.heap[b]? = some (.map (takesE n) n)) (k : Nat) (hk : k < n) : (Instr.lookup 214 (.map (some b)) (.int .i64 (k : Int)) true).run Tryz.prog w = .ok (.tuple #[fnV (mF k), .bool true]) w := by
  have h1 := run_find w k n
  rw [if_pos hk] at h1
  have h2 := fun e => run_key w 9999 (.int .i64 (k : Int)) e 3 Tryz.underlying3
  simp [Instr.lookup, run_underlying Tryz.underlying214, MapKept.run_getObj_map hb, h2, h1, Result.andThen]
theorem takes_none (w : World) (b n : Nat) (hb : w.heap[b]? = some (.map (takesE n) n)) (k : Nat) (hk : n ≤ k) : (Instr.lookup 214 (.map (some b)) (.int .i64 (k : Int)) true).run Tryz.prog w = .ok (.tuple #[.nilFunc, .bool false]) w := by
  have h1 := run_find w k n
  rw [if_neg (by omega)] at h1
  have h2 := fun e => run_key w 9999 (.int .i64 (k : Int)) e 3 Tryz.underlying3
  have h3 : (zeroValue 216).run Tryz.prog w = .ok .nilFunc w := by kernel_rfl
  simp [Instr.lookup, run_underlying Tryz.underlying214, MapKept.run_getObj_map hb, h2, h1, h3, Result.andThen]
set_option maxRecDepth 100000 in
theorem pTakes (w : World) : Calls Tryz.prog 148 #[] w fun e w' => ∃ b, e = .returned (.map (some b)) ∧ w'.heap[b]? = some (.map (takesE 7) 7) ∧ Below w.heap.size w w' := by
  have hmm := @run_makeMap Tryz.prog
  obtain ⟨W, hW⟩ : ∃ W, w.alloc (.map #[] 0) = W := ⟨_, rfl⟩
  have h0 : W.heap[w.heap.size]? = some (.map (takesE 0) 0) := by rw [← hW]; exact heap_alloc_new w _
  have hb0 : Below w.heap.size w W := by rw [← hW]; exact (Below.refl _ _).alloc (Nat.le_refl _) _
  have step : ∀ (n : Nat) (w0 : World), w0.heap[w.heap.size]? = some (.map (takesE n) n) ∧ Below w.heap.size w w0 → ∃ w1 : World, (Instr.mapUpdate 214 (.map (some w.heap.size)) (.int .i64 (n : Int)) (fnV (mF n))).run Tryz.prog w0 = .ok () w1 ∧ w1.heap[w.heap.size]? = some (.map (takesE (n + 1)) (n + 1)) ∧ Below w.heap.size w w1 := fun n w0 h =>
    ⟨_, takes_ins w0 w.heap.size n h.1, heap_setBlock_same h.1 _, h.2.grown (row := some w.heap.size) ⟨rfl, rfl, rfl, by simp [setBlock], fun i _ hi => heap_setBlock_other h.1 _ (fun e => hi (by rw [e]))⟩ h.2.size (fun k hk => by injection hk with hk; omega)⟩
  obtain ⟨w1, r0, h1⟩ := step 0 W ⟨h0, hb0⟩
  obtain ⟨w2, r1, h2⟩ := step 1 w1 h1
  obtain ⟨w3, r2, h3⟩ := step 2 w2 h2
  obtain ⟨w4, r3, h4⟩ := step 3 w3 h3
  obtain ⟨w5, r4, h5⟩ := step 4 w4 h4
  obtain ⟨w6, r5, h6⟩ := step 5 w5 h5
  obtain ⟨w7, r6, h7⟩ := step 6 w6 h6
  have H7 := Lib.hid h7
  have hs : (w.alloc (.map #[] 0)) = W := hW
  clear h0 hb0 step h1 h2 h3 h4 h5 h6 h7 hW
  have r0 : (Instr.mapUpdate 214 (.map (some w.heap.size)) (.int .i64 0) (.func (.func 166) #[] #[])).run Tryz.prog W = .ok () w1 := r0
  have r1 : (Instr.mapUpdate 214 (.map (some w.heap.size)) (.int .i64 1) (.func (.func 167) #[] #[])).run Tryz.prog w1 = .ok () w2 := r1
  have r2 : (Instr.mapUpdate 214 (.map (some w.heap.size)) (.int .i64 2) (.func (.func 168) #[] #[])).run Tryz.prog w2 = .ok () w3 := r2
  have r3 : (Instr.mapUpdate 214 (.map (some w.heap.size)) (.int .i64 3) (.func (.func 169) #[] #[])).run Tryz.prog w3 = .ok () w4 := r3
  have r4 : (Instr.mapUpdate 214 (.map (some w.heap.size)) (.int .i64 4) (.func (.func 170) #[] #[])).run Tryz.prog w4 = .ok () w5 := r4
  have r5 : (Instr.mapUpdate 214 (.map (some w.heap.size)) (.int .i64 5) (.func (.func 171) #[] #[])).run Tryz.prog w5 = .ok () w6 := r5
  have r6 : (Instr.mapUpdate 214 (.map (some w.heap.size)) (.int .i64 6) (.func (.func 172) #[] #[])).run Tryz.prog w6 = .ok () w7 := r6
  go_enter Tryz.func148, Tryz.ntmps148
  go_wp2_with fail
  go_ret
  exact ⟨_, rfl, H7.out.1, H7.out.2⟩
end

section
open Go.RowKit

theorem MS.more {B0 : Nat} {W0 w w' : World} {g : Nat} {c : Ck} (h : MS B0 W0 g c w) (hb : Below w.heap.size w w') : MS B0 W0 g c w' := by
  obtain ⟨⟨K, v, hB, hBy, hk⟩, h1, h2⟩ := h
  exact ⟨⟨K, v, hB.below hb hB.lt, hBy.below hb, hk⟩, h1, h2.trans (hb.mono (by have := hB.lt; omega))⟩
theorem mF_enter (n : Nat) (hn : n < 7) : ∀ (args : Array Value) (w : World), (callFunc (mF n) args).run Tryz.prog w = .ok (.enter (mF n) args) w := by
  obtain rfl | rfl | rfl | rfl | rfl | rfl | rfl : n = 0 ∨ n = 1 ∨ n = 2 ∨ n = 3 ∨ n = 4 ∨ n = 5 ∨ n = 6 := by omega
  · exact enters_of Tryz.func166 (by kernel_rfl) rfl
  · exact enters_of Tryz.func167 (by kernel_rfl) rfl
  · exact enters_of Tryz.func168 (by kernel_rfl) rfl
  · exact enters_of Tryz.func169 (by kernel_rfl) rfl
  · exact enters_of Tryz.func170 (by kernel_rfl) rfl
  · exact enters_of Tryz.func171 (by kernel_rfl) rfl
  · exact enters_of Tryz.func172 (by kernel_rfl) rfl
theorem feed_snoc (c : Ck) (s : List UInt8) (k : Nat) (h : k < s.length) (h2 : (feedC c (s.take k)).2 = k) (h3 : overC (feedC c (s.take k)).1 = false) : feedC c (s.take (k + 1)) = (stepC (feedC c (s.take k)).1 s[k], k + 1) := by
  rw [List.take_succ_eq_append_getElem h, feed_app, h2]
  simp [feedC, h3]
theorem feed_stop (c : Ck) (s : List UInt8) (k : Nat) (h2 : (feedC c (s.take k)).2 = k) (h3 : overC (feedC c (s.take k)).1 = true) : feedC c s = ((feedC c (s.take k)).1, k) := by
  have h := feed_app (s.take k) (s.drop k) c
  rw [List.take_append_drop, feed_over h3, h2] at h
  exact h
set_option maxRecDepth 100000 in
set_option maxHeartbeats 8000000 in
theorem mFeed {B0 : Nat} {W0 w : World} {g : Nat} {c : Ck} (hc : OkC c) (h : MS B0 W0 g c w) (te : TypeId) (pe : Value) (hv : W0.cell? ⟨4, 0, none⟩ = some (.iface te pe)) (h0 : 4 < B0) (s : ByteArray) (hs : s.size ≤ 1000000000) :
    Calls Tryz.prog 117 #[.pointer (some ⟨g, 0, none⟩), .string s] w fun e w' => e = .returned (.int .i64 (feedC c s.data.toList).2) ∧ MS B0 W0 g (feedC c s.data.toList).1 w' := by
  have CT := Lib.hid (pTakes w)
  have HM := Lib.hid h
  have HC := Lib.hid hc
  clear h hc
  go_enter Tryz.func117, Tryz.ntmps117
  go_wp2_with fail
  (with_reducible refine (CT.out).mono ?_); rintro e w1 ⟨b, rfl, hm, g1⟩
  have HM := Lib.hid (HM.out.more g1)
  have HP := Lib.hid hm
  clear hm g1 CT
  go_wp2_with fail
  go_loopw [12] (fun i wr => ∃ k : Nat, i = .int .i64 k ∧ k ≤ s.size ∧ Hid ((feedC c (s.data.toList.take k)).2 = k) ∧ Hid (MS B0 W0 g (feedC c (s.data.toList.take k)).1 wr) ∧ Hid (wr.heap[b]? = some (.map (takesE 7) 7))) (fun i _ => s.size - (intOf i).toNat)
  case atStart => exact ⟨0, rfl, by omega, hide (by simp [feedC]), hide (by simpa [feedC] using HM.out), HP⟩
  case round =>
    obtain ⟨k, rfl, hk, hk2, hms, hmp⟩ := hrel
    rename World => WR
    by_cases hlt : k < s.size
    · have hok := feed_ok (s.data.toList.take k) HC.out
      obtain ⟨ck, hck⟩ : ∃ ck, (feedC c (s.data.toList.take k)).1 = ck := ⟨_, rfl⟩
      have p0 : WR.cell? ⟨g, 0, none⟩ = some (.int .i64 ck.st) := by
        obtain ⟨⟨K, v, hB, _⟩, _⟩ := hms.out
        rw [hck] at hB
        exact hB.cell 0
      cases ho : overC ck with
      | true =>
        have hL := takes_none WR b 7 hmp.out ck.st (by simp [overC] at ho; omega)
        have hfin := feed_stop c s.data.toList k hk2.out (by rw [hck]; exact ho)
        have HF := Lib.hid hfin
        clear hok hfin
        go_wp2_with fail
        go_ret
        rw [HF.out]
        exact ⟨rfl, hms.out⟩
      | false =>
        have hst : ck.st < 7 := by have := hok.st; rw [hck] at this; simp [overC] at ho; omega
        have hL := takes_look WR b 7 hmp.out ck.st hst
        have hE := mF_enter ck.st hst
        obtain ⟨x, hx⟩ : ∃ x, s[k] = x := ⟨_, rfl⟩
        have hsn := feed_snoc c s.data.toList k (by rw [size_l]; exact hlt) hk2.out (by rw [hck]; exact ho)
        rw [hck] at hsn hok
        have hms' := hms.out
        rw [hck] at hms'
        have hxx : s.data.toList[k]'(by rw [size_l]; exact hlt) = x := by rw [← hx]; simp; rfl
        rw [hxx] at hsn
        have CS := Lib.hid (mStep hok ho hms' te pe hv h0 x)
        have HS := Lib.hid hsn
        simp only [fnV] at hL
        generalize mF ck.st = F at hL hE CS
        clear hok hsn hms' hv
        go_wp2_with (go_at_fn F; refine CS.out.mono ?_)
        rintro e w2 ⟨rfl, hm2, hk3⟩
        have HM2 := Lib.hid hm2
        have HP2 := Lib.hid (hk3 b _ _ hmp.out)
        clear hm2 hk3
        go_wp2_with fail
        go_roundw
        case rel =>
          refine ⟨k + 1, by go_num, by omega, hide ?_, hide ?_, HP2⟩
          · rw [HS.out]
          · rw [HS.out]; exact HM2.out
        case measure => simp [intOf]; omega
    · obtain rfl : k = s.size := by omega
      have hd : decide ((s.size : Int) < (s.size : Int)) = false := by simp
      have e1 : s.data.toList.take s.size = s.data.toList := List.take_of_length_le (by rw [size_l]; omega)
      rw [e1] at hk2 hms
      have HX := Lib.hid (And.intro hk2 hms)
      go_wp2_with fail
      go_ret
      obtain ⟨h1, h2⟩ := HX.out
      exact ⟨by rw [h1.out]; rfl, h2.out⟩
end

section
open Go.RowKit

theorem pNew (w : World) : Calls Tryz.prog 115 #[] w fun e w' => e = .returned (.agg (ckV newC)) ∧ Below w.heap.size w w' := by
  unfold ckV ckA newC
  go_enter Tryz.func115, Tryz.ntmps115
  go_wp2_with fail
  refine bodyPost_ret (results_cell_row (p := 0) (ty := 32) (by kernel_rfl) _ _ w.heap.size 32 #[.int .i64 0, .int .i64 0, .int .i64 0, .int .i64 0, .string ⟨#[]⟩, .string ⟨#[]⟩, .int .i64 0, .int .i64 0] (0, 0) _ rfl (Blk.new w 32 _) Tryz.underlying32 rfl (by kernel_rfl)) rfl ?_
  exact ⟨rfl, (Below.refl _ _).alloc (Nat.le_refl _) _⟩
set_option maxRecDepth 100000 in
set_option maxHeartbeats 8000000 in
theorem mResult0 (st size dg left : Int) (K L : ByteArray) (lines status : Int) (v : Value) (xs : List UInt8) (g : Nat) (w : World) (hB : Blk w g 185 (mC st size dg left K L lines status v)) (hV : BytesAt w v xs) : Calls Tryz.prog 118 #[.pointer (some ⟨g, 0, none⟩)] w fun e w' => e = .returned (.agg (ckA st size dg left (bs xs) L lines status)) ∧ Below w.heap.size w w' := by
  unfold ckA
  obtain ⟨g6, cap6, rfl⟩ := hV.shape
  have g1 : Below w.heap.size w (w.alloc (.cells #[.int .i64 0, .int .i64 0, .int .i64 0, .int .i64 0, .string ⟨#[]⟩, .string ⟨#[]⟩, .int .i64 0, .int .i64 0] 32)) := (Below.refl _ _).alloc (Nat.le_refl _) _
  have g2 : Below w.heap.size w ((w.alloc (.cells #[.int .i64 0, .int .i64 0, .int .i64 0, .int .i64 0, .string ⟨#[]⟩, .string ⟨#[]⟩, .int .i64 0, .int .i64 0] 32)).alloc (.cells #[.int .i64 st, .int .i64 size, .int .i64 dg, .int .i64 left, .string K, .string L, .int .i64 lines, .int .i64 status] 32)) := g1.alloc g1.size _
  have hB1 := hB.below g1 hB.lt
  have hB2 := hB.below g2 hB.lt
  have hV2 := (hV.below g2).cells
  have p0 : (w.alloc (.cells #[.int .i64 0, .int .i64 0, .int .i64 0, .int .i64 0, .string ⟨#[]⟩, .string ⟨#[]⟩, .int .i64 0, .int .i64 0] 32)).cell? ⟨g, 0, none⟩ = some (.int .i64 st) := hB1.cell 0
  have p1 : (w.alloc (.cells #[.int .i64 0, .int .i64 0, .int .i64 0, .int .i64 0, .string ⟨#[]⟩, .string ⟨#[]⟩, .int .i64 0, .int .i64 0] 32)).cell? ⟨g, 1, none⟩ = some (.int .i64 size) := hB1.cell 1
  have p2 : (w.alloc (.cells #[.int .i64 0, .int .i64 0, .int .i64 0, .int .i64 0, .string ⟨#[]⟩, .string ⟨#[]⟩, .int .i64 0, .int .i64 0] 32)).cell? ⟨g, 2, none⟩ = some (.int .i64 dg) := hB1.cell 2
  have p3 : (w.alloc (.cells #[.int .i64 0, .int .i64 0, .int .i64 0, .int .i64 0, .string ⟨#[]⟩, .string ⟨#[]⟩, .int .i64 0, .int .i64 0] 32)).cell? ⟨g, 3, none⟩ = some (.int .i64 left) := hB1.cell 3
  have p4 : (w.alloc (.cells #[.int .i64 0, .int .i64 0, .int .i64 0, .int .i64 0, .string ⟨#[]⟩, .string ⟨#[]⟩, .int .i64 0, .int .i64 0] 32)).cell? ⟨g, 4, none⟩ = some (.string K) := hB1.cell 4
  have p5 : (w.alloc (.cells #[.int .i64 0, .int .i64 0, .int .i64 0, .int .i64 0, .string ⟨#[]⟩, .string ⟨#[]⟩, .int .i64 0, .int .i64 0] 32)).cell? ⟨g, 5, none⟩ = some (.string L) := hB1.cell 5
  have p6 : (w.alloc (.cells #[.int .i64 0, .int .i64 0, .int .i64 0, .int .i64 0, .string ⟨#[]⟩, .string ⟨#[]⟩, .int .i64 0, .int .i64 0] 32)).cell? ⟨g, 6, none⟩ = some (.int .i64 lines) := hB1.cell 6
  have p7 : (w.alloc (.cells #[.int .i64 0, .int .i64 0, .int .i64 0, .int .i64 0, .string ⟨#[]⟩, .string ⟨#[]⟩, .int .i64 0, .int .i64 0] 32)).cell? ⟨g, 7, none⟩ = some (.int .i64 status) := hB1.cell 7
  have p8 : ((w.alloc (.cells #[.int .i64 0, .int .i64 0, .int .i64 0, .int .i64 0, .string ⟨#[]⟩, .string ⟨#[]⟩, .int .i64 0, .int .i64 0] 32)).alloc (.cells #[.int .i64 st, .int .i64 size, .int .i64 dg, .int .i64 left, .string K, .string L, .int .i64 lines, .int .i64 status] 32)).cell? ⟨g, 8, none⟩ = some (.slice (some ⟨g6, 0, none⟩) xs.length cap6) := hB2.cell 8
  have hcv := run_convert_bytes_back (P := Tryz.prog) ((w.alloc (.cells #[.int .i64 0, .int .i64 0, .int .i64 0, .int .i64 0, .string ⟨#[]⟩, .string ⟨#[]⟩, .int .i64 0, .int .i64 0] 32)).alloc (.cells #[.int .i64 st, .int .i64 size, .int .i64 dg, .int .i64 left, .string K, .string L, .int .i64 lines, .int .i64 status] 32)) 50 9 5 ⟨g6, 0, none⟩ cap6 xs Tryz.underlying50 Tryz.underlying5 Tryz.underlying9 (fun j hj => hV2 j _ (by simp [Lib.byteCells, hj]))
  have hcv : (convert 50 9 (.slice (some ⟨g6, 0, none⟩) xs.length cap6)).run Tryz.prog ((w.alloc (.cells #[.int .i64 0, .int .i64 0, .int .i64 0, .int .i64 0, .string ⟨#[]⟩, .string ⟨#[]⟩, .int .i64 0, .int .i64 0] 32)).alloc (.cells #[.int .i64 st, .int .i64 size, .int .i64 dg, .int .i64 left, .string K, .string L, .int .i64 lines, .int .i64 status] 32)) = .ok (.string (bs xs)) ((w.alloc (.cells #[.int .i64 0, .int .i64 0, .int .i64 0, .int .i64 0, .string ⟨#[]⟩, .string ⟨#[]⟩, .int .i64 0, .int .i64 0] 32)).alloc (.cells #[.int .i64 st, .int .i64 size, .int .i64 dg, .int .i64 left, .string K, .string L, .int .i64 lines, .int .i64 status] 32)) := hcv
  clear hB1 hB2 hV2 g1 g2 hV hB
  go_enter Tryz.func118, Tryz.ntmps118
  go_wp2_with fail
  have b := (Blk.new w 32 #[.int .i64 st, .int .i64 size, .int .i64 dg, .int .i64 left, .string (bs xs), .string L, .int .i64 lines, .int .i64 status]).below ((Below.refl _ _).alloc (Nat.le_refl _) (.cells #[.int .i64 st, .int .i64 size, .int .i64 dg, .int .i64 left, .string (bs xs), .string L, .int .i64 lines, .int .i64 status] 32)) (by simp)
  refine bodyPost_ret (results_cell_row (p := 2) (ty := 32) (by kernel_rfl) _ _ w.heap.size 32 #[.int .i64 st, .int .i64 size, .int .i64 dg, .int .i64 left, .string (bs xs), .string L, .int .i64 lines, .int .i64 status] (0, 0) _ rfl b Tryz.underlying32 rfl (by kernel_rfl)) rfl ?_
  exact ⟨rfl, ((Below.refl _ _).alloc (Nat.le_refl _) _).alloc (by simp) _⟩
theorem mResult {B0 : Nat} {W0 w : World} {g : Nat} {c : Ck} (h : MS B0 W0 g c w) : Calls Tryz.prog 118 #[.pointer (some ⟨g, 0, none⟩)] w fun e w' => e = .returned (.agg (ckV c)) ∧ Below w.heap.size w w' := by
  obtain ⟨⟨K, v, hB, hBy, _⟩, _, _⟩ := h
  exact mResult0 _ _ _ _ K _ _ _ v c.body g w hB hBy
end

section
open Go.RowKit

theorem results_cell_tmp2 {fn : Func} {p u v : Tmp} {ty : TypeId} (h : fn.results = #[.cell p ty, .tmp u, .tmp v]) (tmps : Array Value) (P : Program) (w : World) :
    (results fn tmps).run P w =
      ((asAddr (tmps.getD p undef)).run P w).andThen fun a w₁ => ((loadVar ty a).run P w₁).andThen fun x w₂ => .ok (.tuple #[x, tmps.getD u undef, tmps.getD v undef]) w₂ := by
  simp only [results, h]
  simp [Sem.run_bind, Result.andThen]
theorem results_cell_row_tmp2 {P : Program} {fn : Func} {p u v : Tmp} {ty : TypeId} (h : fn.results = #[.cell p ty, .tmp u, .tmp v]) (tmps : Array Value) (w : World) (g : Nat) (t : TypeId) (cs : Array Value) (fr : Nat × Nat) (d : TypeDesc)
    (hp : tmps.getD p undef = .pointer (some ⟨g, 0, none⟩)) (hg : w.heap[g]? = some (.cells cs t fr))
    (hu : P.underlying ty = some d) (hd : (match d with | .struct _ | .array _ _ => true | _ => false) = true) (hi : (P.info? ty).map (·.size) = some cs.size) :
    (results fn tmps).run P w = .ok (.tuple #[.agg cs, tmps.getD u undef, tmps.getD v undef]) w := by
  rw [results_cell_tmp2 h, hp]
  simp [asAddr, run_loadVar_row w g t ty cs fr d hg hu hd hi]
theorem bytesAt_conv (w : World) (s : List UInt8) (hs : s.length ≤ 1000000) : BytesAt (Lib.bytesWorld w 5 (bs s)) (.slice (some ⟨w.heap.size, 0, none⟩) (bs s).size (grownCap w (bs s).size 0 5)) s := by
  have hge := grownCap_ge w (bs s).size 0 5
  have hle := grownCap_le_maxLen w (bs s).size 0 5 (by rw [bs_size]; unfold maxLen; omega)
  have hsz : (Lib.bytesCells w 5 (bs s)).size = grownCap w (bs s).size 0 5 := by
    have hm : ((bs s).data.map fun b => Value.int .u8 b.toNat).size = (bs s).size := Array.size_map ..
    unfold Lib.bytesCells
    rw [Array.size_append, hm, Array.size_replicate]
    omega
  refine ⟨w.heap.size, _, _, _, by rw [bs_size], Lib.bytesWorld_at_new w 5 (bs s), .inr ?_, by rw [bs_size] at hge; exact hge, hle, hsz, ?_⟩
  · rw [hsz]; exact Nat.le_refl _
  · unfold Lib.bytesCells
    rw [Array.toList_append, Array.toList_map]
    have hl : ((bs s).data.toList.map fun b => Value.int .u8 b.toNat) = Lib.byteCells s := rfl
    rw [hl]
    have hn : (Lib.byteCells s).length = s.length := byteCells_len s
    rw [← hn]
    exact List.take_left
theorem MS.start {w w2 : World} {g : Nat} {c : Ck} {v : Value} (hB : Blk w2 g 185 (mC c.st c.size c.digits c.left (bs c.body) (bs c.line) c.lines c.status v)) (hV : BytesAt w2 v c.body) (hk : ∀ k, v.ownBlock = some k → w.heap.size ≤ k) (hg : w.heap.size ≤ g) (hb : Below w.heap.size w w2) : MS w.heap.size w g c w2 := ⟨⟨_, v, hB, hV, hk⟩, hg, hb⟩
set_option maxRecDepth 100000 in
set_option maxHeartbeats 16000000 in
theorem pFeed {c : Ck} (hc : OkC c) (hCA : CleanCA (bs c.line)) (s : ByteArray) (hs : s.size ≤ 1000000000) (w : World) (te : TypeId) (pe : Value) (hv : w.cell? ⟨4, 0, none⟩ = some (.iface te pe)) : Calls Tryz.prog 82 #[.agg (ckV c), .string s] w fun e w' => e = .returned (.tuple #[.agg (ckV (feedC c s.data.toList).1), .int .i64 (feedC c s.data.toList).2, .int .i64 0]) ∧ Below w.heap.size w w' := by
  have CF := Lib.hid (fun w => pCheck hc hCA w)
  have CM := Lib.hid (fun (B0 : Nat) (W0 W : World) (g : Nat) (h : MS B0 W0 g c W) hv h0 => mFeed hc h te pe hv h0 s hs)
  have CS := Lib.hid (fun (w1 W4 : World) (g : Nat) (v : Value) hB hV hk hg hb => @MS.start w1 W4 g c v hB hV hk hg hb)
  have hbl : c.body.length ≤ 1000000 := by have := hc.body; omega
  have hV0 := Lib.hid (fun w => bytesAt_conv w c.body hbl)
  have hG : 4 < w.heap.size := Lib.lt_of_cell hv
  obtain ⟨n, hn⟩ : ∃ n, (feedC c s.data.toList).2 = n := ⟨_, rfl⟩
  obtain ⟨c2, hc2⟩ : ∃ c2, (feedC c s.data.toList).1 = c2 := ⟨_, rfl⟩
  rw [hn, hc2] at CM ⊢
  have CR := Lib.hid (fun (B0 : Nat) (W0 W : World) (g : Nat) (h : MS B0 W0 g c2 W) => mResult h)
  have CM : Hid (∀ (B0 : Nat) (W0 W : World) (g : Nat), MS B0 W0 g c W → W0.cell? ⟨4, 0, none⟩ = some (.iface te pe) → 4 < B0 → Calls Tryz.prog 117 #[.pointer (some ⟨g, 0, none⟩), .string s] W fun e w' => e = .returned (.int .i64 (n : Int)) ∧ MS B0 W0 g c2 w') := CM
  unfold ckV ckA at CF CR ⊢
  clear hn hc2 hc hCA hbl
  generalize (c.st : Int) = x0 at CF CS ⊢
  generalize (c2.st : Int) = y0 at CR ⊢
  generalize (c.size : Int) = x1 at CF CS ⊢
  generalize (c2.size : Int) = y1 at CR ⊢
  generalize (c.digits : Int) = x2 at CF CS ⊢
  generalize (c2.digits : Int) = y2 at CR ⊢
  generalize (c.left : Int) = x3 at CF CS ⊢
  generalize (c2.left : Int) = y3 at CR ⊢
  generalize (c.lines : Int) = x6 at CF CS ⊢
  generalize (c2.lines : Int) = y6 at CR ⊢
  generalize (c.status : Int) = x7 at CF CS ⊢
  generalize (c2.status : Int) = y7 at CR ⊢
  generalize bs c.line = x5 at CF CS ⊢
  generalize bs c2.line = y5 at CR ⊢
  generalize bs c2.body = y4 at CR ⊢
  generalize hx4 : bs c.body = x4 at CF CS hV0 ⊢
  generalize c.body = xb at *
  have g0 : Below w.heap.size w ((w.alloc (.cells #[.int .i64 x0, .int .i64 x1, .int .i64 x2, .int .i64 x3, .string x4, .string x5, .int .i64 x6, .int .i64 x7] 32)).alloc (.cells #[.int .i64 0, .int .i64 0, .int .i64 0, .int .i64 0, .string ⟨#[]⟩, .string ⟨#[]⟩, .int .i64 0, .int .i64 0] 32)) := ((Below.refl _ _).alloc (Nat.le_refl _) _).alloc (by simp) _
  have hb0 : Blk ((w.alloc (.cells #[.int .i64 x0, .int .i64 x1, .int .i64 x2, .int .i64 x3, .string x4, .string x5, .int .i64 x6, .int .i64 x7] 32)).alloc (.cells #[.int .i64 0, .int .i64 0, .int .i64 0, .int .i64 0, .string ⟨#[]⟩, .string ⟨#[]⟩, .int .i64 0, .int .i64 0] 32)) w.heap.size 32 #[.int .i64 x0, .int .i64 x1, .int .i64 x2, .int .i64 x3, .string x4, .string x5, .int .i64 x6, .int .i64 x7] := (Blk.new w 32 _).below ((Below.refl _ _).alloc (Nat.le_refl _) _) (by simp)
  have hb1 : Blk ((w.alloc (.cells #[.int .i64 x0, .int .i64 x1, .int .i64 x2, .int .i64 x3, .string x4, .string x5, .int .i64 x6, .int .i64 x7] 32)).alloc (.cells #[.int .i64 0, .int .i64 0, .int .i64 0, .int .i64 0, .string ⟨#[]⟩, .string ⟨#[]⟩, .int .i64 0, .int .i64 0] 32)) (w.heap.size + 1) 32 #[.int .i64 0, .int .i64 0, .int .i64 0, .int .i64 0, .string ⟨#[]⟩, .string ⟨#[]⟩, .int .i64 0, .int .i64 0] := by
    have h := Blk.new (w.alloc (.cells #[.int .i64 x0, .int .i64 x1, .int .i64 x2, .int .i64 x3, .string x4, .string x5, .int .i64 x6, .int .i64 x7] 32)) 32 #[.int .i64 0, .int .i64 0, .int .i64 0, .int .i64 0, .string ⟨#[]⟩, .string ⟨#[]⟩, .int .i64 0, .int .i64 0]
    rw [World.size_alloc] at h
    exact h
  have HX := Lib.hid (And.intro g0 (And.intro hb0 hb1))
  have HV := Lib.hid hv
  clear g0 hb0 hb1 hv
  go_enter Tryz.func82, Tryz.ntmps82
  go_wp2_with fail
  (with_reducible refine (CF.out _).mono ?_); rintro e w1 ⟨rfl, g1⟩
  obtain ⟨g0, hb0, hb1⟩ := HX.out
  have hb0 := hb0.below g1 hb0.lt
  have hb1 := hb1.below g1 hb1.lt
  have g01 := g0.trans (g1.mono g0.size)
  have p0 : w1.cell? ⟨w.heap.size, 0, none⟩ = some (.int .i64 x0) := hb0.cell 0
  have p1 : w1.cell? ⟨w.heap.size, 1, none⟩ = some (.int .i64 x1) := hb0.cell 1
  have p2 : w1.cell? ⟨w.heap.size, 2, none⟩ = some (.int .i64 x2) := hb0.cell 2
  have p3 : w1.cell? ⟨w.heap.size, 3, none⟩ = some (.int .i64 x3) := hb0.cell 3
  have p4 : w1.cell? ⟨w.heap.size, 4, none⟩ = some (.string x4) := hb0.cell 4
  have p5 : w1.cell? ⟨w.heap.size, 5, none⟩ = some (.string x5) := hb0.cell 5
  have p6 : w1.cell? ⟨w.heap.size, 6, none⟩ = some (.int .i64 x6) := hb0.cell 6
  have p7 : w1.cell? ⟨w.heap.size, 7, none⟩ = some (.int .i64 x7) := hb0.cell 7
  have hcv := Lib.run_convert_string_bytes (P := Tryz.prog) w1 9 50 5 x4 (u := .string) Tryz.underlying9 Tryz.underlying50 Tryz.underlying5
  have hVB := Lib.hid (hV0.out w1)
  have hbw := Lib.bytesWorld_below w1 5 x4
  have hsz := Lib.bytesWorld_size w1 5 x4
  obtain ⟨W3, hW3⟩ : ∃ W3, W3 = Lib.bytesWorld w1 5 x4 := ⟨_, rfl⟩
  rw [← hW3] at hcv hbw hsz hVB
  clear hW3
  generalize grownCap w1 x4.size 0 5 = cap at *
  have HV1 := Lib.hid ((g01.cell hG).trans HV.out)
  have HW1 := Lib.hid (And.intro g01 (And.intro hb1 (And.intro hbw hsz)))
  have hG1 : Hid (4 < w1.heap.size) := Lib.hid (Nat.lt_of_lt_of_le hG g01.size)
  have hM := CS.out w1 _ W3.heap.size (.slice (some ⟨w1.heap.size, 0, none⟩) x4.size cap) (Blk.new W3 185 _) (hVB.out.below ((Below.refl _ _).alloc (Nat.le_refl _) (.cells #[.int .i64 x0, .int .i64 x1, .int .i64 x2, .int .i64 x3, .string x4, .string x5, .int .i64 x6, .int .i64 x7, .slice (some ⟨w1.heap.size, 0, none⟩) x4.size cap] 185))) (fun k hk => by simp [Value.ownBlock] at hk; omega) (by omega) (hbw.alloc (by omega) _)
  have HM := Lib.hid (CM.out w1.heap.size w1 _ W3.heap.size hM HV1.out hG1.out)
  have HM : Hid (Calls Tryz.prog 117 #[.pointer (some ⟨W3.heap.size, 0, none⟩), .string s] (W3.alloc (.cells #[.int .i64 x0, .int .i64 x1, .int .i64 x2, .int .i64 x3, .string x4, .string x5, .int .i64 x6, .int .i64 x7, .slice (some ⟨w1.heap.size, 0, none⟩) x4.size cap] 185)) fun e w' => e = .returned (.int .i64 (n : Int)) ∧ MS w1.heap.size w1 W3.heap.size c2 w') := HM
  clear hG g0 g1 g01 hb0 hb1 hbw hsz HX CF HV hx4 hM
  go_wp2_with fail
  (with_reducible refine (HM.out).mono ?_); rintro e w5 ⟨rfl, hM5⟩
  have HR := Lib.hid (CR.out _ _ _ _ hM5)
  have HB5 := Lib.hid hM5.below
  clear hM5
  go_wp2_with fail
  (with_reducible refine (HR.out).mono ?_); rintro e w6 ⟨rfl, g6⟩
  obtain ⟨g01, hb1, -, -⟩ := HW1.out
  have g16 := HB5.out.trans (g6.mono HB5.out.size)
  have hz := hb1.below g16 hb1.lt
  have g06 := g01.trans (g16.mono g01.size)
  have z0 : w6.cell? ⟨w.heap.size + 1, 0, none⟩ = some (.int .i64 0) := hz.cell 0
  have f0 : w6.frozen? ⟨w.heap.size + 1, 0, none⟩ = false := hz.frozen 0
  have z1 : w6.cell? ⟨w.heap.size + 1, 1, none⟩ = some (.int .i64 0) := hz.cell 1
  have f1 : w6.frozen? ⟨w.heap.size + 1, 1, none⟩ = false := hz.frozen 1
  have z2 : w6.cell? ⟨w.heap.size + 1, 2, none⟩ = some (.int .i64 0) := hz.cell 2
  have f2 : w6.frozen? ⟨w.heap.size + 1, 2, none⟩ = false := hz.frozen 2
  have z3 : w6.cell? ⟨w.heap.size + 1, 3, none⟩ = some (.int .i64 0) := hz.cell 3
  have f3 : w6.frozen? ⟨w.heap.size + 1, 3, none⟩ = false := hz.frozen 3
  have z4 : w6.cell? ⟨w.heap.size + 1, 4, none⟩ = some (.string ⟨#[]⟩) := hz.cell 4
  have f4 : w6.frozen? ⟨w.heap.size + 1, 4, none⟩ = false := hz.frozen 4
  have z5 : w6.cell? ⟨w.heap.size + 1, 5, none⟩ = some (.string ⟨#[]⟩) := hz.cell 5
  have f5 : w6.frozen? ⟨w.heap.size + 1, 5, none⟩ = false := hz.frozen 5
  have z6 : w6.cell? ⟨w.heap.size + 1, 6, none⟩ = some (.int .i64 0) := hz.cell 6
  have f6 : w6.frozen? ⟨w.heap.size + 1, 6, none⟩ = false := hz.frozen 6
  have z7 : w6.cell? ⟨w.heap.size + 1, 7, none⟩ = some (.int .i64 0) := hz.cell 7
  have f7 : w6.frozen? ⟨w.heap.size + 1, 7, none⟩ = false := hz.frozen 7
  have HZ := Lib.hid (And.intro hz g06)
  clear hz g06 g16 g6 hb1 g01
  go_wp2_with fail
  obtain ⟨hz, g06⟩ := HZ.out
  have b := ((((((((hz.set_ 0 (.int .i64 y0)).set_ 1 (.int .i64 y1)).set_ 2 (.int .i64 y2)).set_ 3 (.int .i64 y3)).set_ 4 (.string y4)).set_ 5 (.string y5)).set_ 6 (.int .i64 y6)).set_ 7 (.int .i64 y7))
  have e : (((((((((#[.int .i64 0, .int .i64 0, .int .i64 0, .int .i64 0, .string ⟨#[]⟩, .string ⟨#[]⟩, .int .i64 0, .int .i64 0] : Array Value)).setIfInBounds 0 (.int .i64 y0)).setIfInBounds 1 (.int .i64 y1)).setIfInBounds 2 (.int .i64 y2)).setIfInBounds 3 (.int .i64 y3)).setIfInBounds 4 (.string y4)).setIfInBounds 5 (.string y5)).setIfInBounds 6 (.int .i64 y6)).setIfInBounds 7 (.int .i64 y7) = #[.int .i64 y0, .int .i64 y1, .int .i64 y2, .int .i64 y3, .string y4, .string y5, .int .i64 y6, .int .i64 y7] := by simp
  rw [e] at b
  refine bodyPost_ret (results_cell_row_tmp2 (p := 4) (u := 5) (v := 6) (ty := 32) (by kernel_rfl) _ _ (w.heap.size + 1) 32 #[.int .i64 y0, .int .i64 y1, .int .i64 y2, .int .i64 y3, .string y4, .string y5, .int .i64 y6, .int .i64 y7] (0, 0) _ rfl b Tryz.underlying32 rfl (by kernel_rfl)) rfl ?_
  exact ⟨rfl, ((((((((g06.setCell (by simp) _).setCell (by simp) _).setCell (by simp) _).setCell (by simp) _).setCell (by simp) _).setCell (by simp) _).setCell (by simp) _).setCell (by simp) _)⟩
end

section
open Go.RowKit

theorem cleanCA_nil : CleanCA (bs newC.line) := cleanCA_ascii [] (by simp) (by simp) (by simp)
/-- that strconv.ErrSyntax holds an error -/
def ErrS (w : World) : Prop := ∃ te pe, w.cell? ⟨4, 0, none⟩ = some (.iface te pe)
theorem ErrS.below {w w' : World} (h : ErrS w) (hb : Below w.heap.size w w') : ErrS w' := by
  obtain ⟨te, pe, hv⟩ := h
  exact ⟨te, pe, (hb.cell (Lib.lt_of_cell hv)).trans hv⟩
theorem pFeedC {c : Ck} (hc : OkC c) (hCA : CleanCA (bs c.line)) (s : ByteArray) (hs : s.size ≤ 1000000000) (w : World) (hE : ErrS w) : Calls Tryz.prog 82 #[.agg (ckV c), .string s] w fun e w' => e = .returned (.tuple #[.agg (ckV (feedC c s.data.toList).1), .int .i64 (feedC c s.data.toList).2, .int .i64 0]) ∧ Below w.heap.size w w' := by
  obtain ⟨te, pe, hv⟩ := hE
  exact pFeed hc hCA s hs w te pe hv
end
end Go.Proofs.YtencphfhpnljlaaGreatDoor
