/-
  respond.All over what several responses write, one behind the other.
-/
import Derived.Test.YthhlnpfcpgfcfaaDoorRjL
namespace Go.Proofs.YthhlnpfcpgfcfaaDoor
open Go.RowKit

theorem textJ_len {r : Rsp} (h : checkR r = 0) : (textR r).length ≤ 100000 := by
  obtain ⟨_, _, _, hb⟩ := check_ok h
  have h1 := bufR_len h r.flds.length
  have h2 : (lenR r.body.length).length ≤ 20 := by unfold lenR; have := dec_len r.body.length (by omega); simp only [List.length_append, List.length_cons, List.length_nil]; omega
  rw [textR_buf]
  have h3 : (if r.close = true then closeR ++ [13, 10] else []).length ≤ 19 := by cases r.close <;> simp [closeR]
  have h4 : (if r.head = true then ([] : List UInt8) else r.body).length ≤ 4096 := by cases r.head <;> simp <;> omega
  simp only [List.length_append, List.length_cons, List.length_nil]
  omega
def allT (Y : List Rsp) : List UInt8 := Y.flatMap textR
theorem allT_app (Y Z : List Rsp) : allT (Y ++ Z) = allT Y ++ allT Z := by simp [allT]
theorem allT_len : ∀ (Y : List Rsp), (∀ r ∈ Y, checkR r = 0) → (allT Y).length ≤ Y.length * 100000
  | [], _ => by simp [allT]
  | r :: Y, h => by
    have h1 := textJ_len (h r (by simp))
    have h2 := allT_len Y (fun x hx => h x (by simp [hx]))
    unfold allT at h2 ⊢
    rw [List.flatMap_cons, List.length_append, List.length_cons]
    omega
theorem allT_at (Y : List Rsp) (k : Nat) (h : k < Y.length) : (allT Y).drop (allT (Y.take k)).length = textR Y[k] ++ allT (Y.drop (k + 1)) := by
  have e : allT Y = allT (Y.take k) ++ (textR Y[k] ++ allT (Y.drop (k + 1))) := by
    have h1 : allT Y = allT (Y.take k ++ Y.drop k) := by rw [List.take_append_drop]
    rw [h1, allT_app, List.drop_eq_getElem_cons h]
    unfold allT
    rw [List.flatMap_cons]
  rw [e, List.drop_left]
theorem allT_succ (Y : List Rsp) (k : Nat) (h : k < Y.length) : (allT (Y.take (k + 1))).length = (allT (Y.take k)).length + (textR Y[k]).length := by
  rw [List.take_succ_eq_append_getElem h, allT_app]
  simp [allT]
theorem allT_take_le (Y : List Rsp) (k : Nat) : (allT (Y.take k)).length ≤ (allT Y).length := by
  conv => rhs; rw [← List.take_append_drop k Y, allT_app, List.length_append]
  omega
theorem map_take_succ (Y : List Rsp) (L : List RJ) (k : Nat) (h : k < Y.length) (hL : L.map (·.1) = (Y.take k).map backR) (A : Option Addr) (c : Nat) : (L ++ [(backR Y[k], A, c)]).map (·.1) = (Y.take (k + 1)).map backR := by
  rw [List.map_append, hL, List.take_succ_eq_append_getElem h, List.map_append]
  rfl
theorem results_tmp_cell {fn : Func} {t q : Tmp} {ty2 : TypeId} {P : Program} (h : fn.results = #[.tmp t, .cell q ty2]) (tmps : Array Value) (w : World) (g2 : Nat) (y v : Value)
    (ht : tmps.getD t undef = v) (hq : tmps.getD q undef = .pointer (some ⟨g2, 0, none⟩)) (hl2 : (loadVar ty2 ⟨g2, 0, none⟩).run P w = .ok y w) : (results fn tmps).run P w = .ok (.tuple #[v, y]) w := by
  have ht' : tmps[t]?.getD undef = v := by simpa using ht
  have hq' : tmps[q]?.getD undef = .pointer (some ⟨g2, 0, none⟩) := by simpa using hq
  simp [results, h, ht', hq', asAddr, hl2]
theorem cut_tail (l : List UInt8) (n : Nat) : (bs l).extract n l.length = bs (l.drop n) := by
  apply ba_ext
  rw [ByteArray.data_extract, bs_list]
  simp [bs]
  exact List.take_of_length_le (by simp)
theorem HeldJ.set {w : World} {base : Nat} {l : List RJ} (h : HeldJ w base l) (b i : Nat) (hb : b < base) (u : Value) : HeldJ (w.setCell ⟨b, i, none⟩ u) base l := fun x hx => own_set (h x hx) b i hb u
theorem HeldJ.le {w : World} {base base' : Nat} {l : List RJ} (h : HeldJ w base l) (hb : base' ≤ base) : HeldJ w base' l := fun x hx => own_leJ (h x hx) hb
def AllPost (Y : List Rsp) (w : World) (e : Ending) (w' : World) : Prop :=
  ∃ (A : Option Addr) (c : Nat) (L : List RJ), L.map (·.1) = Y.map backR ∧ e = .returned (.tuple #[.slice A L.length c, .agg #[.int .i64 0, .int .i64 0]]) ∧ w'.ownsRow w.heap.size 24 5 (.slice A L.length c) L.length (cellsJ L) ∧ HeldJ w' w.heap.size L ∧ Below w.heap.size w w'
set_option maxRecDepth 100000 in
set_option maxHeartbeats 8000000 in
theorem pAllJ (Y : List Rsp) (H : Option Addr) (n c : Nat) (w : World) (hok : ∀ r ∈ Y, checkR r = 0) (hlen : Y.length ≤ 5) (hh : Reads w w.heap.size 1 H n (boolsJ (Y.map (·.head)))) (ht : Tab12 w) :
    Calls Tryd.prog 17 #[.string (bs (allT Y)), .slice H n c] w (AllPost Y w) := by
  have hn : n = Y.length := by have := hh.1; rw [boolsJ_len, List.length_map] at this; omega
  subst hn
  have htot := allT_len Y hok
  obtain ⟨S, hS⟩ : ∃ S, allT Y = S := ⟨_, rfl⟩
  have hSl : S.length ≤ 500000 := by rw [← hS]; omega
  rw [hS]
  have zs := bs_size S
  have HS := Lib.hid hS
  have b0 : Below w.heap.size w (w.alloc (.cells #[.int .i64 0, .int .i64 0] 33)) := (Below.refl _ _).alloc (Nat.le_refl _) _
  have k0 := Blk.new w 33 #[.int .i64 0, .int .i64 0]
  have s0 : (w.alloc (.cells #[.int .i64 0, .int .i64 0] 33)).heap.size = w.heap.size + 1 := by simp
  have HK := Lib.hid hok
  have HH := Lib.hid (hh.below b0)
  have B0 := Lib.hid b0
  have K0 := Lib.hid k0
  have S0 := Lib.hid s0
  have HT := Lib.hid ht
  clear b0 k0 s0 hok hh ht htot hS
  go_enter Tryd.func17, Tryd.ntmps17
  go_wp2_with fail
  generalize w.alloc (.cells #[.int .i64 0, .int .i64 0] 33) = W0 at K0 HH B0 S0 ⊢
  go_loopw [6, 7, 15] (fun l at_ i wr => ∃ (k : Nat) (A : Option Addr) (c' : Nat) (L : List RJ), i = .int .i64 k ∧ k ≤ Y.length ∧ L.length = k ∧ L.map (·.1) = (Y.take k).map backR ∧ l = .slice A k c' ∧ at_ = .int .i64 ((allT (Y.take k)).length : Nat) ∧ Hid (wr.ownsRow W0.heap.size 24 5 (.slice A k c') k (cellsJ L)) ∧ Hid (HeldJ wr W0.heap.size L) ∧ Hid (Below W0.heap.size W0 wr)) (fun _ _ i _ => Y.length - (intOf i).toNat)
  case atStart => exact ⟨0, none, 0, [], rfl, by omega, rfl, rfl, rfl, rfl, hide (World.ownsRow_nil _ _ _ _), hide (fun x hx => by cases hx), hide (Below.refl _ _)⟩
  case round =>
    obtain ⟨k, A, c', L, rfl, hk, hLk, hLm, rfl, rfl, hO, hH, hB⟩ := hrel
    rename World => wr
    have hle := allT_take_le Y k
    rw [HS.out] at hle
    by_cases hlt : k < Y.length
    · have hc0 := HK.out Y[k] (List.getElem_mem hlt)
      have hat := allT_at Y k hlt
      have hsu := allT_succ Y k hlt
      have hle2 := allT_take_le Y (k + 1)
      have hmp := map_take_succ Y L k hlt hLm
      obtain ⟨b, o, rfl, _, hcs⟩ := (HH.out.below (hB.out.mono (by have := B0.out.size; exact this))).lit (by omega)
      have hcell : wr.cell? ⟨b, o + k, none⟩ = some (.bool Y[k].head) := hcs k _ (by rw [boolsJ_get _ _ (by simpa using hlt)]; simp)
      obtain ⟨r, hr⟩ : ∃ r, Y[k] = r := ⟨_, rfl⟩
      rw [HS.out] at hat hle2
      rw [hr] at hc0 hat hsu hcell hmp
      have x1 := cut_tail S (allT (Y.take k)).length
      rw [hat] at x1
      obtain ⟨T, hT⟩ : ∃ T, textR r ++ allT (Y.drop (k + 1)) = T := ⟨_, rfl⟩
      rw [hT] at x1 hat
      have hTl : T.length ≤ 500000 := by rw [← hat, List.length_drop]; omega
      have cP := pParseO T r.head wr (by omega) (HT.out.below ((B0.out.trans (hB.out.mono B0.out.size)))).r (HT.out.below ((B0.out.trans (hB.out.mono B0.out.size)))).m (HT.out.below ((B0.out.trans (hB.out.mono B0.out.size)))).e
      rw [parse_backO hc0 (allT (Y.drop (k + 1))) hT.symm rfl] at cP
      obtain ⟨q, hq⟩ : ∃ q, backR r = q := ⟨_, rfl⟩
      have hqf : r.flds = q.flds := by rw [← hq]; rfl
      rw [hq, hqf] at cP
      rw [hq] at hmp
      unfold rspV at cP
      obtain ⟨u, hu⟩ : ∃ u, (textR r).length = u := ⟨_, rfl⟩
      obtain ⟨a, ha⟩ : ∃ a, (allT (Y.take k)).length = a := ⟨_, rfl⟩
      rw [hu] at cP hsu
      rw [ha] at hsu x1 hle
      rw [hsu] at hle2
      have wa : IntKind.i64.wrap ((a : Int) + (u : Int)) = ((a + u : Nat) : Int) := by rw [IntKind.wrap_i64]; omega
      have j1 : (0 : Int) ≤ (a : Int) := by omega
      have j2 : (a : Int) ≤ (S.length : Int) := by omega
      have i0 : (0 : Int) ≤ (k : Int) := by omega
      have i1 : (k : Int) < (Y.length : Int) := by omega
      have CP := Lib.hid cP
      have HSU := Lib.hid hsu
      have HMP := Lib.hid hmp
      rw [ha]
      clear cP hsu hmp hat hT hTl hu ha hr hc0 hcs hle2 hq hqf
      go_wp2_with fail
      (with_reducible refine (CP.out).mono ?_); rintro e w2 ⟨A1, c1, rfl, ho1, hn1, g1⟩
      have hO2 := own_below hO.out g1
      have hH2 := hH.out.below g1
      have hB2 := hB.out.trans (g1.mono hB.out.size)
      have hy := own_leJ ho1 hB.out.size
      have bX : Below w2.heap.size w2 ((w2.alloc (.cells #[.int .i64 q.code, .slice A1 q.flds.length c1, .string (bs q.body), .bool q.close, .bool q.head] 24)).alloc (.cells #[.int .i64 0, .int .i64 0] 33)) := ((Below.refl _ _).alloc (Nat.le_refl _) _).alloc (by simp) _
      have k10 := (Blk.new w2 24 #[.int .i64 q.code, .slice A1 q.flds.length c1, .string (bs q.body), .bool q.close, .bool q.head]).alloc (.cells #[.int .i64 0, .int .i64 0] 33)
      have k12 := Blk.new (w2.alloc (.cells #[.int .i64 q.code, .slice A1 q.flds.length c1, .string (bs q.body), .bool q.close, .bool q.head] 24)) 33 #[.int .i64 0, .int .i64 0]
      rw [show (w2.alloc (.cells #[.int .i64 q.code, .slice A1 q.flds.length c1, .string (bs q.body), .bool q.close, .bool q.head] 24)).heap.size = w2.heap.size + 1 by simp] at k12
      have hbX : W0.heap.size ≤ ((w2.alloc (.cells #[.int .i64 q.code, .slice A1 q.flds.length c1, .string (bs q.body), .bool q.close, .bool q.head] 24)).alloc (.cells #[.int .i64 0, .int .i64 0] 33)).heap.size := Nat.le_trans hB2.size bX.size
      obtain ⟨A2, c2, w5, hrun, ho5, hb5, hg5⟩ := app_rspJ (own_below hO2 bX) hbX (by omega) (q, A1, c1)
      rw [show ((w2.alloc (.cells #[.int .i64 q.code, .slice A1 q.flds.length c1, .string (bs q.body), .bool q.close, .bool q.head] 24)).alloc (.cells #[.int .i64 0, .int .i64 0] 33)).heap.size = w2.heap.size + 1 + 1 by simp] at hrun
      simp only at hrun
      have held5 := ((hH2.below bX).app (q, A1, c1) (own_below hy bX)).grown (own_below hO2 bX) (by decide) hg5
      have HF := Lib.hid (And.intro ho5 (And.intro held5 ((hB2.trans (bX.mono hB2.size)).trans hb5)))
      have e0 : ((w2.alloc (.cells #[.int .i64 q.code, .slice A1 q.flds.length c1, .string (bs q.body), .bool q.close, .bool q.head] 24)).alloc (.cells #[.int .i64 0, .int .i64 0] 33)).cell? ⟨w2.heap.size, 0, none⟩ = some (.int .i64 q.code) := k10.cell 0
      have e1 : ((w2.alloc (.cells #[.int .i64 q.code, .slice A1 q.flds.length c1, .string (bs q.body), .bool q.close, .bool q.head] 24)).alloc (.cells #[.int .i64 0, .int .i64 0] 33)).cell? ⟨w2.heap.size, 1, none⟩ = some (.slice A1 q.flds.length c1) := k10.cell 1
      have e2 : ((w2.alloc (.cells #[.int .i64 q.code, .slice A1 q.flds.length c1, .string (bs q.body), .bool q.close, .bool q.head] 24)).alloc (.cells #[.int .i64 0, .int .i64 0] 33)).cell? ⟨w2.heap.size, 2, none⟩ = some (.string (bs q.body)) := k10.cell 2
      have e3 : ((w2.alloc (.cells #[.int .i64 q.code, .slice A1 q.flds.length c1, .string (bs q.body), .bool q.close, .bool q.head] 24)).alloc (.cells #[.int .i64 0, .int .i64 0] 33)).cell? ⟨w2.heap.size, 3, none⟩ = some (.bool q.close) := k10.cell 3
      have e4 : ((w2.alloc (.cells #[.int .i64 q.code, .slice A1 q.flds.length c1, .string (bs q.body), .bool q.close, .bool q.head] 24)).alloc (.cells #[.int .i64 0, .int .i64 0] 33)).cell? ⟨w2.heap.size, 4, none⟩ = some (.bool q.head) := k10.cell 4
      have f0 : ((w2.alloc (.cells #[.int .i64 q.code, .slice A1 q.flds.length c1, .string (bs q.body), .bool q.close, .bool q.head] 24)).alloc (.cells #[.int .i64 0, .int .i64 0] 33)).cell? ⟨w2.heap.size + 1, 0, none⟩ = some (.int .i64 0) := k12.cell 0
      have HRUN := Lib.hid hrun
      have HLK := Lib.hid hLk
      clear hO2 hH2 hB2 hy bX k10 k12 hbX hrun ho5 hb5 hg5 held5 ho1 g1 CP hO hH hB hLk hLm
      go_wp2_with (at_builtin; refine wpList_append_run HRUN.out rfl _ _ rfl rfl rfl rfl ?_)
      go_roundw
      case rel => exact ⟨k + 1, A2, c2, L ++ [(q, A1, c1)], by go_num, by omega, by rw [List.length_append, HLK.out]; rfl, HMP.out A1 c1, rfl, by rw [HSU.out, Int.natCast_add], hide HF.out.1, hide HF.out.2.1, hide HF.out.2.2⟩
      case measure => simp [intOf]; omega
    · obtain rfl : k = Y.length := by omega
      rw [List.take_length] at hLm hle ⊢
      rw [HS.out]
      have hd : decide ((S.length : Int) < (S.length : Int)) = false := by simp
      have kf := K0.out.below hB.out K0.out.lt
      have q0 : wr.cell? ⟨w.heap.size, 0, none⟩ = some (.int .i64 0) := kf.cell 0
      have q1 : wr.cell? ⟨w.heap.size, 1, none⟩ = some (.int .i64 0) := kf.cell 1
      have f0 := kf.frozen 0
      have f1 := kf.frozen 1
      have KF := Lib.hid (blk_set2 kf (.int .i64 0) (.int .i64 0))
      have hbase : w.heap.size < W0.heap.size := by rw [S0.out]; omega
      have HF := Lib.hid (And.intro (own_leJ (own_set (own_set hO.out w.heap.size 0 hbase (.int .i64 0)) w.heap.size 1 hbase (.int .i64 0)) B0.out.size) (And.intro (((hH.out.set w.heap.size 0 hbase (.int .i64 0)).set w.heap.size 1 hbase (.int .i64 0)).le B0.out.size) (((B0.out.trans (hB.out.mono B0.out.size)).setCell (p := ⟨w.heap.size, 0, none⟩) (Nat.le_refl _) (.int .i64 0)).setCell (p := ⟨w.heap.size, 1, none⟩) (Nat.le_refl _) (.int .i64 0))))
      have HL := Lib.hid (And.intro hLk hLm)
      clear kf hO hH hB hLk hLm
      go_wp2_with fail
      refine bodyPost_ret (results_tmp_cell (t := 4) (q := 5) (ty2 := 33) (by kernel_rfl) _ _ w.heap.size _ _ rfl rfl (ld2 KF.out rfl)) rfl ?_
      refine ⟨A, c', L, HL.out.2, ?_, ?_, HF.out.2.1, HF.out.2.2⟩
      · rw [HL.out.1]; rfl
      · rw [HL.out.1]; exact HF.out.1
end Go.Proofs.YthhlnpfcpgfcfaaDoor
