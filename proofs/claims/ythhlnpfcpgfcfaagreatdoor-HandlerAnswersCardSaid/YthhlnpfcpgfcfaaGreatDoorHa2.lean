/-
  Handlers: the iterator of package dots over the pieces of a path, and Normal.
-/
import Derived.Test.YthhlnpfcpgfcfaaGreatDoorSeq
import Derived.Lib.BufferOwn
import Derived.Test.YthhlnpfcpgfcfaaGreatDoorTk5
import Derived.Test.YthhlnpfcpgfcfaaGreatDoorHa0
import Derived.Test.YthhlnpfcpgfcfaaGreatDoorRs8
namespace Go.Proofs.YthhlnpfcpgfcfaaGreatDoor
open Go.RowKit Go.Shelf
attribute [local go_sem] Oper.semAt_some

def lastsP : List (List UInt8) → List (List UInt8 × Bool)
  | [] => []
  | [p] => [(p, true)]
  | p :: q :: l => (p, false) :: lastsP (q :: l)
def badP (x : List UInt8 × Bool) : Bool := dotB x.1 || (x.1.isEmpty && !x.2)
theorem norm_lasts : ∀ l : List (List UInt8), normP l = (lastsP l).all fun x => !badP x
  | [] => rfl
  | [p] => by simp [normP, lastsP, badP]
  | p :: q :: l => by
    have := norm_lasts (q :: l)
    rw [normP, lastsP, List.all_cons, ← this]
    · simp [badP, Bool.not_or]
    · simp
theorem lasts_cons (p : List UInt8) {l : List (List UInt8)} (h : l ≠ []) : lastsP (p :: l) = (p, false) :: lastsP l := by
  cases l with
  | nil => exact absurd rfl h
  | cons q l => rfl
theorem lasts_mem : ∀ (l : List (List UInt8)) x, x ∈ lastsP l → x.1 ∈ l
  | [], x, h => by simp [lastsP] at h
  | [p], x, h => by simp [lastsP] at h; subst h; simp
  | p :: q :: l, x, h => by
    rw [lastsP] at h
    rcases List.mem_cons.1 h with rfl | h
    · simp
    · exact List.mem_cons_of_mem _ (lasts_mem (q :: l) x h)

theorem pPieces (s : ByteArray) (w : World) :
    Calls Tryz.prog 95 #[.string s] w fun e w' => e = .returned (.func (.func 124) #[] #[.pointer (some ⟨w.heap.size, 0, none⟩)]) ∧ w' = w.alloc (.cells #[.string s] 9) := by
  go_enter Tryz.func95, Tryz.ntmps95
  go_wp2_with fail
  go_ret
  exact ⟨rfl, rfl⟩
/-- the box of the iterator: the rest -/
def pcG (Bs : Nat) (s : ByteArray) (W : World) : Prop := Boxed W Bs 9 (.string s)
def pcSt (Bs : Nat) (A B : World) : Prop := A.grownBy B (some Bs) ∧ KeepsOthers A B
def pcKp (Bs : Nat) (A B : World) : Prop := ∀ o, A.heap[Bs]? = some o → B.heap[Bs]? = some o
def boxL (Bs : Nat) (W : World) : Nat := match W.cell? ⟨Bs, 0, none⟩ with | some (.string u) => u.size | _ => 0
theorem boxL_eq {Bs : Nat} {W : World} {t : TypeId} {u : ByteArray} (h : Boxed W Bs t (.string u)) : boxL Bs W = u.size := by
  unfold boxL; rw [h.cell]
def onB (v : Value) (n : Nat) : Nat := match v with | .bool true => n | _ => 0

theorem pcSt_step {Bs : Nat} {A B : World} (h : Below A.heap.size A B) (v : Value) : pcSt Bs A (B.setCell ⟨Bs, 0, none⟩ v) :=
  ⟨Lib.grownBy_trans (only_of_below h (some Bs)) (grownBy_setCell' B Bs v), (KeepsOthers.of_grownBy (only_of_below h none) (fun j o e => by cases e)).trans (KeepsOthers.setCell _ _ _)⟩
set_option maxRecDepth 100000 in
set_option maxHeartbeats 4000000 in
theorem pieces_st (n : Nat) (hn : 1 ≤ n) (Bs : Nat) (s : List UInt8) (hs : s.length ≤ 1000000) :
    SeqSt Fence.wide n Tryz.prog 124 #[.pointer (some ⟨Bs, 0, none⟩)] (fun x : List UInt8 × Bool => #[Value.string (bs x.1), Value.bool x.2]) (pcG Bs (bs s)) (pcSt Bs) (pcKp Bs)
      (fun xs => xs = lastsP (splitC 47 s)) (fun pre => pre <+: lastsP (splitC 47 s)) := by
  intro l J Jx W g0 hJ hY h0
  have HJ := Lib.hid hJ
  have HY := Lib.hid hY
  clear hJ hY
  refine callsIn_of_wp Tryz.func124 rfl trivial ?_ rfl
  simp only [Tryz.ntmps124, List.size_toArray, List.length_cons, List.length_nil, Nat.reduceAdd, Nat.reduceSub, Array.replicate_succ, Array.replicate_zero, List.push_toArray, List.append_toArray, List.nil_append, List.cons_append]
  gi_wp2
  gi_loopw [3] (fun a wr => (∃ (pre : List (List UInt8 × Bool)) (u : List UInt8), a = .bool true ∧ Hid (lastsP (splitC 47 s) = pre ++ lastsP (splitC 47 u)) ∧ u.length ≤ 1000000 ∧ Boxed wr Bs 9 (.string (bs u)) ∧ J pre wr) ∨ (a = .bool false ∧ J (lastsP (splitC 47 s)) wr)) (fun a wr => onB a (boxL Bs wr + 1))
  case atStart => exact .inl ⟨[], s, rfl, by simp [Hid], hs, g0, h0⟩
  case round =>
    rename World => wr
    rcases hrel with ⟨pre, u, rfl, HP, hu, b0, hj⟩ | ⟨rfl, hj⟩
    · have d0 := b0.cell
      have cI := fun w => StrCut_any (bs u) 47 w (by rw [bs_size]; exact hu)
      rw [bs_list] at cI
      rcases idx_cases 47 u with ⟨h1, h2⟩ | ⟨a, r, h1, h2, h3⟩
      · have hsp := split_miss 47 _ h2
        have HPx : Hid (lastsP (splitC 47 s) = pre ++ [(u, true)]) := by
          show _ = _
          rw [HP.out, hsp]; rfl
        rw [h2] at cI
        have CI := Lib.hid cI
        have hpf : pre ++ [(u, true)] <+: lastsP (splitC 47 s) := by rw [HPx.out]; exact List.prefix_refl _
        have HPF := Lib.hid hpf
        clear cI h1 h2 hsp hpf
        gi_wp2_with (refine ⟨trivial, ?_⟩; gi_at_call 86; refine (callsIn_wide.2 (CI.out _)).mono ?_; rintro e w2 ⟨rfl, hb2⟩
                     have q0 : Boxed w2 Bs 9 (.string (bs u)) := (hb2.block _ b0.lt).trans b0
                     have q1 := q0.cell
                     have q2 := q0.frozen
                     have Q3 := Lib.hid (q0.set (.string (bs [])))
                     obtain ⟨fn, tmps, assign, body, hy, hR⟩ := HY.out pre (u, true) _ (HJ.out pre _ _ hj (pcSt_step hb2 (.string (bs [])))) HPF.out
                     have HR := Lib.hid hR
                     clear hR)
        refine (HR.out).mono ?_
        rintro e W3 (⟨rfl, hJ3, hk3⟩ | ⟨rfl, hJx3⟩)
        · gi_wp2
          go_roundw
          case rel => exact .inr ⟨rfl, by rw [HPx.out]; exact hJ3⟩
          case measure => simp [onB]
        · gi_wp2
          refine bodyPost_ret (results_none rfl _ _ _) rfl ?_
          exact ⟨⟨_, rfl⟩, .inr ⟨_, HPF.out, hJx3⟩⟩
      · have hsp := split_hit 47 _ a r h1 h3
        have hl : a.length + 1 + r.length = u.length := by rw [h1]; simp; omega
        have HPx : Hid (lastsP (splitC 47 s) = (pre ++ [(a, false)]) ++ lastsP (splitC 47 r)) := by
          show _ = _
          rw [HP.out, hsp, lasts_cons _ (splitC_ne 47 r)]; simp
        rw [h3] at cI
        have CI := Lib.hid cI
        have hpf : pre ++ [(a, false)] <+: lastsP (splitC 47 s) := ⟨lastsP (splitC 47 r), by rw [HPx.out]⟩
        have HPF := Lib.hid hpf
        clear cI h1 h2 h3 hsp hpf
        gi_wp2_with (refine ⟨trivial, ?_⟩; gi_at_call 86; refine (callsIn_wide.2 (CI.out _)).mono ?_; rintro e w2 ⟨rfl, hb2⟩
                     have q0 : Boxed w2 Bs 9 (.string (bs u)) := (hb2.block _ b0.lt).trans b0
                     have q1 := q0.cell
                     have q2 := q0.frozen
                     have Q3 := Lib.hid (q0.set (.string (bs r)))
                     obtain ⟨fn, tmps, assign, body, hy, hR⟩ := HY.out pre (a, false) _ (HJ.out pre _ _ hj (pcSt_step hb2 (.string (bs r)))) HPF.out
                     have HR := Lib.hid hR
                     clear hR)
        refine (HR.out).mono ?_
        rintro e W3 (⟨rfl, hJ3, hk3⟩ | ⟨rfl, hJx3⟩)
        · have b3 : Boxed W3 Bs 9 (.string (bs r)) := hk3 _ Q3.out
          gi_wp2
          go_roundw
          case rel => exact .inl ⟨_, r, rfl, HPx, by omega, b3, hJ3⟩
          case measure => simp only [onB]; rw [boxL_eq b3, boxL_eq b0, bs_size, bs_size]; omega
        · gi_wp2
          refine bodyPost_ret (results_none rfl _ _ _) rfl ?_
          exact ⟨⟨_, rfl⟩, .inr ⟨_, HPF.out, hJx3⟩⟩
    · gi_wp2
      go_end0
      exact ⟨⟨_, rfl⟩, .inl ⟨_, rfl, hj⟩⟩
theorem boxed_ownH {β : Type} (B : Nat) (t : TypeId) (v : β → Value) : Own (fun s W => Boxed W B t (v s)) := by
  intro s X Y row h hg hr
  exact h.kept hg fun e => by
    obtain ⟨o, ho, hc⟩ := hr B e.symm
    rw [show X.heap[B]? = _ from h] at ho; cases ho; cases hc
theorem pDotted (y : List UInt8) (w : World) : Calls Tryz.prog 96 #[.string (bs y)] w fun e w' => e = .returned (.bool (dotB y)) ∧ w' = w := by
  by_cases h1 : y = [46]
  · have e1 := lit_t h1
    have hd : dotB y = true := by unfold dotB; simp [h1]
    rw [hd]
    clear h1 hd
    go_enter Tryz.func96, Tryz.ntmps96
    go_wp2_with fail
    go_ret
    exact ⟨rfl, rfl⟩
  · have e1 := lit_f h1
    by_cases h2 : y = [46, 46]
    · have e2 := lit_t h2
      have hd : dotB y = true := by unfold dotB; simp [h2]
      rw [hd]
      clear h1 h2 hd
      go_enter Tryz.func96, Tryz.ntmps96
      go_wp2_with fail
      go_ret
      exact ⟨rfl, rfl⟩
    · have e2 := lit_f h2
      have hd : dotB y = false := by unfold dotB; simp [h1, h2]
      rw [hd]
      clear h1 h2 hd
      go_enter Tryz.func96, Tryz.ntmps96
      go_wp2_with fail
      go_ret
      exact ⟨rfl, rfl⟩
def NI (w : World) (pre : List (List UInt8 × Bool)) (W : World) : Prop := ((∀ x ∈ pre, badP x = false) ∧ Boxed W w.heap.size 4 (.bool false)) ∧ Below w.heap.size w W
def NX (w : World) (c : Code) (pre : List (List UInt8 × Bool)) (W : World) : Prop := (c = .ret ∧ (∃ x ∈ pre, badP x = true) ∧ Boxed W w.heap.size 4 (.bool false)) ∧ Below w.heap.size w W
theorem NI_own (w : World) (N : Nat) (hN : w.heap.size ≤ N) : OwnFrom N (NI w) :=
  OwnFrom.and (Own.from (fun _ X Y row h hg hr => ⟨h.1, boxed_ownH (β := Unit) _ _ (fun _ => .bool false) () X Y row h.2 hg hr⟩) _) (ownFrom_below (Nat.le_refl _) hN)
theorem NX_own (w : World) (c : Code) (N : Nat) (hN : w.heap.size ≤ N) : OwnFrom N (NX w c) :=
  OwnFrom.and (Own.from (fun _ X Y row h hg hr => ⟨h.1, h.2.1, boxed_ownH (β := Unit) _ _ (fun _ => .bool false) () X Y row h.2.2 hg hr⟩) _) (ownFrom_below (Nat.le_refl _) hN)
theorem NI_st (w : World) (pre : List (List UInt8 × Bool)) (A B : World) (h : NI w pre A) (hs : pcSt (w.heap.size + 1) A B) : NI w pre B :=
  ⟨⟨h.1.1, h.1.2.kept hs.1 (fun e => by injection e with e; omega)⟩, h.2.grown hs.1 h.2.size fun k e => by injection e; omega⟩
set_option maxRecDepth 100000 in
set_option maxHeartbeats 4000000 in
theorem pNormal_main (t : List UInt8) (w : World) (hs : t.length + 1 ≤ 128) :
    Calls Tryz.prog 70 #[.string (bs (47 :: t))] w fun e w' => e = .returned (.bool (normP (splitC 47 t))) ∧ Below w.heap.size w w' := by
  have hz : (bs (47 :: t)).size = t.length + 1 := by rw [bs_size]; simp
  obtain ⟨S, hS⟩ : ∃ S, bs (47 :: t) = S := ⟨_, rfl⟩
  have h0 : 0 < S.size := by rw [← hS, hz]; omega
  have hb : S[0] = 47 := by subst hS; rfl
  have hx : S.extract 1 (t.length + 1) = bs t := by
    subst hS; rw [xb]; congr 1
    rw [List.take_of_length_le (by simp)]; rfl
  rw [hS] at hz ⊢
  have cP := fun w => pPieces (bs t) w
  have CP := Lib.hid cP
  have d1 : decide ((t.length : Int) + 1 < 1) = false := by simp; omega
  have d2 : decide ((128 : Int) < (t.length : Int) + 1) = false := by simp; omega
  clear hS cP
  refine (callsIn_wide (n := 6)).1 ?_
  refine callsIn_of_wp_marks Tryz.func70 rfl trivial ?_ rfl
  simp only [Tryz.ntmps70, List.size_toArray, List.length_cons, List.length_nil, Nat.reduceAdd, Nat.reduceSub, Array.replicate_succ, Array.replicate_zero, List.push_toArray, List.append_toArray, List.nil_append, List.cons_append]
  gi_wp2
  gi_wp2_with (refine ⟨trivial, ?_⟩; gi_at_call 95; refine (callsIn_wide.2 (CP.out _)).mono ?_; rintro e w1 ⟨rfl, rfl⟩)
  have m0 := Boxed.new w 4 (.bool false)
  have m1 := Boxed.new (w.alloc (.cells #[.bool false] 4)) 9 (.string (bs t))
  rw [World.size_alloc] at m1
  obtain ⟨w1, hw1⟩ : ∃ w1, (w.alloc (.cells #[.bool false] 4)).alloc (.cells #[.string (bs t)] 9) = w1 := ⟨_, rfl⟩
  have hs1 : w1.heap.size = w.heap.size + 2 := by rw [← hw1]; simp
  have hI1 : NI w [] w1 := ⟨⟨fun x hx => by simp at hx, by rw [← hw1]; exact m0.alloc _⟩, by rw [← hw1]; exact ((Below.refl _ _).alloc (Nat.le_refl _) _).alloc (by simp) _⟩
  have hG : pcG (w.heap.size + 1) (bs t) w1 := by rw [← hw1]; exact m1
  rw [hw1]
  clear hw1 m0 m1
  refine wpIn_rangeFunc_st (F := Fence.wide) (n := 6) rfl (by omega) (gf := 124) (lb := #[.pointer (some ⟨w.heap.size + 1, 0, none⟩)]) rfl trivial (enters_of Tryz.func124 (by kernel_rfl) rfl)
    (pieces_st 5 (by omega) (w.heap.size + 1) t (by omega)) hG (fun W o h => Boxed.alloc h _) (fun A B h => h.2) (fun h k o ho => k o (h o ho)) (fun W l o hl o2 ho => (World.putObj_heap_other (by omega)).trans ho) (fun _ => rfl)
    (NI w) (NX w) (NI_own w _ (by omega)) (fun c => NX_own w c _ (by omega)) (NI_st w) hI1
    (fun x => { tmps := #[.string S, undef, .pointer (some ⟨w.heap.size, 0, none⟩), .string (bs x.1), .bool x.2, .string S, .int .i64 (t.length + 1), .bool false, .bool false, .string S, .int .i64 (t.length + 1), .bool false, .bool false, .bool false, .string S, .int .u8 47, .bool false, .bool false, .string S, .string (bs t),
      .func (.func 124) #[] #[.pointer (some ⟨w.heap.size + 1, 0, none⟩)], .string (bs x.1), .bool x.2, undef, undef, undef, undef, undef, undef, undef, undef, undef, undef], defers := [] }) ?assign ?body ?done ?stop
  case assign =>
    intro l x W K hK
    gi_wp2
    exact hK
  case body =>
    rintro l pre x W hI hpre
    obtain ⟨y, b⟩ := x
    simp only
    have HI := Lib.hid hI
    have hm := HI.out.1.2
    have c0 := hm.cell
    have f0 := hm.frozen
    have cD := fun W => pDotted y W
    have hko : Hid (∀ (hb : badP (y, b) = false), KeepsFrom w1.heap.size W W ∧ pcKp (w.heap.size + 1) W W ∧ NI w (pre ++ [(y, b)]) W) := fun hb => ⟨KeepsFrom.refl _ _, fun o ho => ho, ⟨⟨fun x hx => by
      rcases List.mem_append.1 hx with hx | hx
      · exact HI.out.1.1 x hx
      · rw [List.mem_singleton.1 hx]; exact hb, HI.out.1.2⟩, HI.out.2⟩⟩
    have hbd : Hid (∀ (hb : badP (y, b) = true), KeepsFrom w1.heap.size W (W.setCell ⟨w.heap.size, 0, none⟩ (.bool false)) ∧ NX w .ret (pre ++ [(y, b)]) (W.setCell ⟨w.heap.size, 0, none⟩ (.bool false))) := fun hb => ⟨(KeepsOthers.setCell W _ _).from _, ⟨rfl, ⟨(y, b), by simp, hb⟩, HI.out.1.2.set _⟩, HI.out.2.setCell (by simp) _⟩
    cases hdy : dotB y with
    | true =>
      rw [hdy] at cD
      have CD := Lib.hid cD
      have hb : badP (y, b) = true := by unfold badP; simp [hdy]
      have HB := Lib.hid hb
      clear hI hpre hm cD hdy hb
      gi_wp2_with (refine ⟨trivial, ?_⟩; gi_at_call 96; refine (CallsIn.inRound l (callsIn_wide.2 (CD.out _))).mono ?_; rintro e W1 ⟨rfl, rfl⟩)
      exact hbd.out HB.out
    | false =>
      rw [hdy] at cD
      have CD := Lib.hid cD
      by_cases hy : y = []
      · obtain ⟨m1, m2⟩ := emp_bs hy
        cases b with
        | true =>
          have hb : badP (y, true) = false := by unfold badP; simp [hdy]
          have HB := Lib.hid hb
          clear hI hpre hm cD hdy hb hy
          gi_wp2_with (refine ⟨trivial, ?_⟩; gi_at_call 96; refine (CallsIn.inRound l (callsIn_wide.2 (CD.out _))).mono ?_; rintro e W1 ⟨rfl, rfl⟩)
          exact hko.out HB.out
        | false =>
          have hb : badP (y, false) = true := by unfold badP; simp [hy]
          have HB := Lib.hid hb
          clear hI hpre hm cD hdy hb hy
          gi_wp2_with (refine ⟨trivial, ?_⟩; gi_at_call 96; refine (CallsIn.inRound l (callsIn_wide.2 (CD.out _))).mono ?_; rintro e W1 ⟨rfl, rfl⟩)
          exact hbd.out HB.out
      · obtain ⟨m1, m2⟩ := nemp_bs hy
        have hb : badP (y, b) = false := by
          unfold badP
          have : y.isEmpty = false := by simpa using hy
          simp [hdy, this]
        have HB := Lib.hid hb
        clear hI hpre hm cD hdy hb hy
        gi_wp2_with (refine ⟨trivial, ?_⟩; gi_at_call 96; refine (CallsIn.inRound l (callsIn_wide.2 (CD.out _))).mono ?_; rintro e W1 ⟨rfl, rfl⟩)
        exact hko.out HB.out
  case done =>
    rintro D xs W hD rfl ⟨⟨hok, p0⟩, hB⟩ hK
    have c0 := p0.cell
    have f0 := p0.frozen
    have hn : normP (splitC 47 t) = true := by
      rw [norm_lasts, List.all_eq_true]
      intro x hx
      rw [hok x hx]; rfl
    have HN := Lib.hid hn
    clear hn hok
    gi_wp2
    have hK' := (KeepsOthers.setCell W ⟨w.heap.size, 0, none⟩ (.bool true)).same D _ hK rfl
    refine ⟨by simp, .inl ⟨_, _, rfl, run_takeDeferred hK', ?_⟩⟩
    have q0 := ((p0.set (.bool true)).kept (grownBy_putObj' _ D (.deferred none)) (by simp; omega)).cell
    refine ⟨.bool true, by simp [results, Tryz.f70, go_sem, q0], ?_⟩
    rw [HN.out]
    exact ⟨rfl, (hB.setCell (p := ⟨w.heap.size, 0, none⟩) (by simp) _).trans (belowK_b (w := w) (Nat.le_refl _) _ D _ _ (by omega) hK' rfl rfl)⟩
  case stop =>
    rintro D c pre W hD hpre ⟨⟨rfl, hbad, p0⟩, hB⟩ hK
    have hn : normP (splitC 47 t) = false := by
      obtain ⟨x, hx, hb⟩ := hbad
      rw [norm_lasts, List.all_eq_false]
      exact ⟨x, hpre.subset hx, by rw [hb]; simp⟩
    have HN := Lib.hid hn
    clear hn hbad hpre
    gi_wp2
    refine ⟨by simp, .inl ⟨_, _, rfl, run_takeDeferred hK, ?_⟩⟩
    have q0 := (p0.kept (grownBy_putObj' _ D (.deferred none)) (by simp; omega)).cell
    refine ⟨.bool false, by simp [results, Tryz.f70, go_sem, q0], ?_⟩
    rw [HN.out]
    exact ⟨rfl, hB.trans (belowK_b (w := w) (Nat.le_refl _) W D _ _ (by omega) hK rfl rfl)⟩
theorem head_or (s : List UInt8) : s = [] ∨ (∃ x t, s = x :: t ∧ x ≠ 47) ∨ ∃ t, s = 47 :: t := by
  cases s with
  | nil => exact .inl rfl
  | cons x t =>
    by_cases h : x = 47
    · subst h; exact .inr (.inr ⟨t, rfl⟩)
    · exact .inr (.inl ⟨x, t, rfl, h⟩)
set_option maxRecDepth 100000 in
set_option maxHeartbeats 1000000 in
theorem pNormal (s : List UInt8) (w : World) (hs : s.length ≤ 1000000) :
    Calls Tryz.prog 70 #[.string (bs s)] w fun e w' => e = .returned (.bool (normalT s)) ∧ Below w.heap.size w w' := by
  have hz := bs_size s
  have q0 := (Boxed.new w 4 (.bool false)).cell
  have hB : Below w.heap.size w (w.alloc (.cells #[.bool false] 4)) := (Below.refl _ _).alloc (Nat.le_refl _) _
  have HB := Lib.hid hB
  clear hB
  have fin : ∀ (a : Act), a.tmps.getD 2 undef = .pointer (some ⟨w.heap.size, 0, none⟩) → (results Tryz.f70 a.tmps).run Tryz.prog (w.alloc (.cells #[.bool false] 4)) = .ok (.bool false) (w.alloc (.cells #[.bool false] 4)) := by
    intro a ha
    have ha' : a.tmps[2]?.getD undef = .pointer (some ⟨w.heap.size, 0, none⟩) := by simpa using ha
    simp [results, Tryz.f70, go_sem, ha', q0]
  have FIN := Lib.hid fin
  clear fin
  rcases head_or s with rfl | ⟨x, t, rfl, hx⟩ | ⟨t, rfl⟩
  · have e : normalT [] = false := rfl
    rw [e]
    clear e q0
    go_enter Tryz.func70, Tryz.ntmps70
    go_wp2_with fail
    exact bodyPost_ret (FIN.out _ rfl) rfl ⟨rfl, HB.out⟩
  · have e : normalT (x :: t) = false := by unfold normalT; simp [hx]
    rw [e]
    have h0 : 0 < (bs (x :: t)).size := by rw [hz]; simp
    have hb : (bs (x :: t))[0] = x := rfl
    have hq : ((x.toNat : Int) != 47) = true := by rw [bne_iff_ne]; intro e; exact hx (UInt8.toNat_inj.1 (by show x.toNat = 47; omega))
    obtain ⟨S, hS⟩ : ∃ S, bs (x :: t) = S := ⟨_, rfl⟩
    rw [hS] at hz h0 ⊢
    have hb : S[0] = x := by subst hS; rfl
    simp only [List.length_cons] at hz hs
    have d1 : decide ((t.length : Int) + 1 < 1) = false := by simp; omega
    clear e q0 hS hx
    by_cases h2 : 128 < t.length + 1
    · have d2 : decide ((128 : Int) < (t.length : Int) + 1) = true := by simp; omega
      go_enter Tryz.func70, Tryz.ntmps70
      go_wp2_with fail
      exact bodyPost_ret (FIN.out _ rfl) rfl ⟨rfl, HB.out⟩
    · have d2 : decide ((128 : Int) < (t.length : Int) + 1) = false := by simp; omega
      go_enter Tryz.func70, Tryz.ntmps70
      go_wp2_with fail
      exact bodyPost_ret (FIN.out _ rfl) rfl ⟨rfl, HB.out⟩
  · by_cases h2 : t.length + 1 ≤ 128
    · have e : normalT (47 :: t) = normP (splitC 47 t) := by unfold normalT; simp; intro _; omega
      rw [e]
      exact pNormal_main t w h2
    · have e : normalT (47 :: t) = false := by unfold normalT; simp; intro h; omega
      rw [e]
      obtain ⟨S, hS⟩ : ∃ S, bs (47 :: t) = S := ⟨_, rfl⟩
      rw [hS] at hz ⊢
      simp only [List.length_cons] at hz hs
      have d1 : decide ((t.length : Int) + 1 < 1) = false := by simp; omega
      have d2 : decide ((128 : Int) < (t.length : Int) + 1) = true := by simp; omega
      clear e q0 hS
      go_enter Tryz.func70, Tryz.ntmps70
      go_wp2_with fail
      exact bodyPost_ret (FIN.out _ rfl) rfl ⟨rfl, HB.out⟩
end Go.Proofs.YthhlnpfcpgfcfaaGreatDoor
