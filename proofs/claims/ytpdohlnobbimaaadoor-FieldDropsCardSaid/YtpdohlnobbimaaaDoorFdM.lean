/-
  Names, Line, Read of the program; reads and fails of the law. Line and Read of the program; reads and fails of the law. Lists of fields made of numbers (waypostlaw06.made). reads and fails of the law; the chapter's examples (FieldKnown). The chapter's examples (FieldKnown).
-/
import Derived.Test.YtpdohlnobbimaaaDoorFd13
import Derived.Test.YtpdohlnobbimaaaDoorTk5
import Derived.Test.YtpdohlnobbimaaaDoorFd9
import Derived.Test.YtpdohlnobbimaaaDoorBs4
import Derived.Test.YtpdohlnobbimaaaDoorKt2
namespace Go.Proofs.YtpdohlnobbimaaaDoor

section
open Go.RowKit
open Go.Maps (Keyed IsMap Tidy setOf)

/-- the texts of a list as keys -/
def strKeys (acc : List (List UInt8)) : List Lit := acc.map Lit.string
theorem strKeys_app (a b : List (List UInt8)) : strKeys (a ++ b) = strKeys a ++ strKeys b := by simp [strKeys]
theorem strKeys_key (acc : List (List UInt8)) : ∀ x ∈ strKeys acc, WideAt.IsKeyLit x := by
  intro x hx
  obtain ⟨i, _, rfl⟩ := List.mem_map.1 hx
  trivial
theorem strKeys_any (acc : List (List UInt8)) (k : List UInt8) : (strKeys acc).any (fun x => x.sameKey (.string k)) = acc.contains k := by
  unfold strKeys
  rw [List.any_map, List.contains_eq_any_beq]
  congr 1
  funext i
  simp only [Function.comp, Lit.sameKey]
  rw [Bool.eq_iff_iff, beq_iff_eq]
  simp
  exact eq_comm
/-- the names of fields in small letters, each once -/
def namesL (l : List Fld) : List (List UInt8) := l.foldl (fun acc f => if acc.contains (lowL f.1) then acc else acc ++ [lowL f.1]) []
theorem namesL_snoc (l : List Fld) (f : Fld) : namesL (l ++ [f]) = if (namesL l).contains (lowL f.1) then namesL l else namesL l ++ [lowL f.1] := by
  unfold namesL; rw [List.foldl_append]; rfl
theorem namesL_len (l : List Fld) : ∀ k, k ≤ l.length → (namesL (l.take k)).length ≤ k := by
  intro k
  induction k with
  | zero => intro _; simp [namesL]
  | succ k ih =>
    intro hk
    have := ih (by omega)
    rw [List.take_succ_eq_append_getElem (show k < l.length by omega), namesL_snoc]
    split
    · omega
    · simp; omega
theorem lawStr : Keyed Tryd.prog 9 := Maps.string_keyed Tryd.underlying9
theorem keyStr (x : List UInt8) (h : x.length ≤ 1000000) : keyOf Tryd.prog 9 (.string (bs x)) = some (.string x) := WideMaps.keyOf_string_mk Tryd.underlying9 (by rw [bs_size]; unfold maxLen; omega)
theorem own_map {base e size n b : Nat} {W W' : World} {v : Value} {xs : List Value} (ho : W.ownsRow base e size v n xs) (hg : W.grownBy W' (some b)) (hb : b < base) : W'.ownsRow base e size v n xs := by
  refine ho.kept hg ?_
  rcases ho.2 with ⟨rfl, _⟩ | ⟨g, cap, cur, rfl, hgb, _⟩
  · exact .inl rfl
  · refine .inr ?_
    simp [Value.ownBlock]
    omega
theorem ownsMap_lt {H : Type} {P : Program} {k : TypeId} {R : Value → Option (DataW H × List MemPlace)} {b n B : Nat} {D : DataW H} {W W' : World} (h : W.ownsMap P k R b n D) (hB : Below B W W') (hb : b < B) : W'.ownsMap P k R b n D := by
  obtain ⟨es, clock, h0, r⟩ := h
  exact ⟨es, clock, (hB.block b hb).trans h0, r⟩
theorem low_bs (x : List UInt8) : low (bs x) = bs (lowL x) := rfl

set_option maxRecDepth 100000 in
set_option maxHeartbeats 16000000 in
theorem pNames (A : Option Addr) (n c : Nat) (l : List Fld) (w : World) (hr : Reads w w.heap.size 2 A n (fldsC l)) (hn : n ≤ 100000) (hl : fldsOk l) (he : askL l [] = 0) :
    Calls Tryd.prog 14 #[.slice A n c] w fun e w' => ∃ A2 c2, e = .returned (.tuple #[.slice A2 (namesL l).length c2, .int .i64 0]) ∧ (namesL l).length ≤ c2 ∧ Reads w' w'.heap.size 1 A2 (namesL l).length (strs (namesL l)) ∧ Below w.heap.size w w' := by
  obtain rfl := hr.flen
  have cA := pask A none l.length c 0 0 l [] w hr Reads.none_ hn (by omega) hl (by simp)
  rw [he, if_pos rfl] at cA
  have CA := Lib.hid cA
  have HR := Lib.hid hr
  have HL := Lib.hid hl
  clear cA hr hl he
  have e1 : (((0 : Nat) : Int) != 0) = false := rfl
  have hmm := @run_makeMap Tryd.prog
  go_enter Tryd.func14, Tryd.ntmps14
  go_wp2_with fail
  (with_reducible refine (CA.out).mono ?_); rintro e w1 ⟨rfl, hb1⟩
  obtain ⟨W2, hW2⟩ : ∃ W2, w1.alloc (.cells #[.slice A l.length c, .slice none 0 0] 81) = W2 := ⟨_, rfl⟩
  have hs2 : W2.heap.size = w1.heap.size + 1 := by rw [← hW2]; simp
  have hb2 : Below w.heap.size w W2 := by rw [← hW2]; exact hb1.alloc hb1.size _
  have hM3 : (W2.alloc (.map #[] 0)).ownsMap Tryd.prog 9 (plainElem (H := Unit) Tryd.prog 4) (w1.heap.size + 1) 0 (setOf (.lit (.bool true)) (strKeys (namesL (l.take 0)))) := by
    have := World.ownsMap_made (H := Unit) W2 Tryd.prog 9 (plainElem (H := Unit) Tryd.prog 4)
    rwa [hs2] at this
  have hb3 : Below (w1.heap.size + 1) W2 (W2.alloc (.map #[] 0)) := (Below.refl _ _).alloc (by rw [hs2]; exact Nat.le_refl _) _
  have hs3 : (W2.alloc (.map #[] 0)).heap.size = w1.heap.size + 2 := by simp [hs2]
  have HM3 := Lib.hid (And.intro hM3 (And.intro hb3 (And.intro hs3 (And.intro hb2 hs2))))
  clear hb2 hM3 hb3 hs2 hs3
  subst hW2
  go_wp2_with fail
  go_loopw [7, 22] (fun o i wr => ∃ k : Nat, i = .int .i64 k ∧ k ≤ l.length ∧ Hid (wr.ownsRow (w1.heap.size + 2) 9 1 o (namesL (l.take k)).length (strs (namesL (l.take k)))) ∧ Hid (wr.ownsMap Tryd.prog 9 (plainElem (H := Unit) Tryd.prog 4) (w1.heap.size + 1) (namesL (l.take k)).length (setOf (.lit (.bool true)) (strKeys (namesL (l.take k)))) ∧ Below (w1.heap.size + 1) (w1.alloc (.cells #[.slice A l.length c, .slice none 0 0] 81)) wr ∧ w1.heap.size + 2 ≤ wr.heap.size)) (fun _ i _ => l.length - (intOf i).toNat)
  case atStart => exact ⟨0, rfl, by omega, World.ownsRow_nil _ _ _ _, hide ⟨HM3.out.1, HM3.out.2.1, by rw [HM3.out.2.2.1]; exact Nat.le_refl _⟩⟩
  case round =>
    obtain ⟨k, rfl, hk, HO, HM⟩ := hrel
    rename World => W0
    have hP := namesL_len l k hk
    have hbW := HM3.out.2.2.2.1.trans (HM.out.2.1.mono (by have := HM3.out.2.2.2.1.size; have := HM3.out.2.2.2.2; omega))
    by_cases hlt : k < l.length
    · obtain ⟨b, o, rfl, hbl, q0, q1⟩ := HR.out.fld k hlt
      have c0 := (hbW.cell (p := ⟨b, o + k * 2, none⟩) hbl).trans q0
      have c1 := (hbW.cell (p := ⟨b, o + k * 2 + 1, none⟩) hbl).trans q1
      have hok := HL.out l[k] (List.getElem_mem hlt)
      obtain ⟨f, hf⟩ : ∃ f, l[k] = f := ⟨_, rfl⟩
      rw [hf] at c0 c1 hok
      have htk := take_snoc_of hlt hf
      have hPA := namesL_snoc (l.take k) f
      rw [← htk] at hPA
      have hMs := HM.out.2.1.size
      obtain ⟨W5, hW5⟩ : ∃ W5, W0.alloc (.cells #[.string (bs f.1), .string (bs f.2)] 36) = W5 := ⟨_, rfl⟩
      have g5 : Below W0.heap.size W0 W5 := by rw [← hW5]; exact (Below.refl _ _).alloc (Nat.le_refl _) _
      have cW := fun w => TLower_any (bs f.1) w (by rw [bs_size]; omega)
      rw [low_bs] at cW
      have hll : (lowL f.1).length ≤ 100000 := by unfold lowL; rw [List.length_map]; omega
      obtain ⟨y, hy⟩ : ∃ y, lowL f.1 = y := ⟨_, rfl⟩
      rw [hy] at cW hll hPA
      have CW := Lib.hid cW
      have HG5 := Lib.hid g5
      have HPA := Lib.hid hPA
      clear q0 q1 htk hf hy cW hPA g5
      subst hW5
      go_wp2_with fail
      (with_reducible refine (CW.out _).mono ?_); rintro e w6 ⟨rfl, g6⟩
      have g06 := HG5.out.trans (g6.mono HG5.out.size)
      have hM6 := ownsMap_below HM.out.1 g06
      have hO6 := own_below HO.out g06
      have hB6 := HM.out.2.1.trans (g06.mono (by have := HM.out.2.2; omega))
      have hs6 := g06.size
      have hkey := keyStr y (by omega)
      have hLK := lookup_set hM6 lawStr Tryd.underlying84 Tryd.underlying4 (zeroBool w6) hkey (strKeys_key _)
      rw [strKeys_any] at hLK
      have hPA := HPA.out
      obtain ⟨G, hG⟩ : ∃ G, (namesL (l.take k)).contains y = G := ⟨_, rfl⟩
      rw [hG] at hLK hPA
      have HB6 := Lib.hid (And.intro hB6 (Nat.le_trans HM.out.2.2 hs6))
      clear g06 g6 hG hB6
      cases G with
      | true =>
        rw [if_pos rfl] at hPA
        have HO' : Hid (w6.ownsRow (w1.heap.size + 2) 9 1 u7 (namesL (l.take (k + 1))).length (strs (namesL (l.take (k + 1))))) := by
          show World.ownsRow _ _ _ _ _ _ _
          rw [hPA]; exact hO6
        have HM' : Hid (w6.ownsMap Tryd.prog 9 (plainElem (H := Unit) Tryd.prog 4) (w1.heap.size + 1) (namesL (l.take (k + 1))).length (setOf (.lit (.bool true)) (strKeys (namesL (l.take (k + 1))))) ∧ Below (w1.heap.size + 1) (w1.alloc (.cells #[.slice (some ⟨b, o, none⟩) l.length c, .slice none 0 0] 81)) w6 ∧ w1.heap.size + 2 ≤ w6.heap.size) := by
          rw [hPA]; exact hide ⟨hM6, HB6.out⟩
        clear hPA hM6 hO6
        go_wp2_with fail
        go_roundw
        case rel => exact ⟨k + 1, by go_num, by omega, HO', HM'⟩
        case measure => simp [intOf]; omega
      | false =>
        rw [if_neg (by simp)] at hPA
        have HPA := Lib.hid hPA
        have HO6 := Lib.hid hO6
        clear hPA hO6
        go_wp2_with (first | (at_mapUpdate; refine wpList_mapUpdate_own _ rfl _ _ _ 84 rfl 9 4 lawStr Tryd.underlying84 _ (w1.heap.size + 1) _ _ rfl hM6 (by unfold maxLen; omega) _ _ _ rfl rfl hkey _ [] (plainElem_bool Tryd.underlying4 true) ?_; intro w7 hown7 hg7; clear hM6; obtain ⟨v', w8, hrun, hown, hb8, _⟩ := app_txt (own_map HO6.out hg7 (by omega)) (Nat.le_trans HB6.out.2 hg7.size) (by omega) y) | (at_builtin; refine wpList_append_run hrun rfl _ _ rfl rfl rfl rfl ?_))
        have HO' : Hid (w8.ownsRow (w1.heap.size + 2) 9 1 v' (namesL (l.take (k + 1))).length (strs (namesL (l.take (k + 1))))) := by
          show World.ownsRow _ _ _ _ _ _ _
          rw [HPA.out]; exact hown
        have hB8 := (HB6.out.1.grown hg7 (by have := HB6.out.2; omega) (fun j hj => by cases hj; exact Nat.le_refl _)).trans (hb8.mono (by omega))
        have hM8 : Hid (w8.ownsMap Tryd.prog 9 (plainElem (H := Unit) Tryd.prog 4) (w1.heap.size + 1) (namesL (l.take (k + 1))).length (setOf (.lit (.bool true)) (strKeys (namesL (l.take (k + 1))))) ∧ Below (w1.heap.size + 1) (w1.alloc (.cells #[.slice (some ⟨b, o, none⟩) l.length c, .slice none 0 0] 81)) w8 ∧ w1.heap.size + 2 ≤ w8.heap.size) := by
          refine hide ⟨?_, hB8, by have := hb8.size; have := hg7.size; have := HB6.out.2; omega⟩
          rw [HPA.out, strKeys_app, show strKeys [y] = [Lit.string y] from rfl, Maps.setOf_snoc, List.length_append]
          exact ownsMap_lt hown7 hb8 (by omega)
        clear hown hown7 hg7 hb8 hB8 hrun
        go_roundw
        case rel => exact ⟨k + 1, by go_num, by omega, HO', hM8⟩
        case measure => simp [intOf]; omega
    · obtain rfl : k = l.length := by omega
      have hd2 : decide ((l.length : Int) < (l.length : Int)) = false := by simp
      have ho := HO.out
      rw [List.take_length] at ho
      obtain ⟨A', cap, rfl⟩ := own_slice ho
      have HO2 := Lib.hid ho
      clear ho
      go_wp2_with fail
      go_ret2
      exact ⟨A', cap, rfl, own_capA HO2.out, Reads.of_own HO2.out, hbW⟩
end

section
open Go.RowKit

theorem blkA {t : TypeId} {cs : Array Value} (X : World) {g : Nat} (h : X.heap.size = g) : Blk (X.alloc (.cells cs t)) g t cs := h ▸ Blk.new X t cs
set_option maxRecDepth 100000 in
theorem pLine (x : Fld) (w : World) (hx1 : x.1.length ≤ 100000) (hx2 : x.2.length ≤ 100000) (ho : oneL x = 0) :
    Calls Tryd.prog 17 #[.agg #[.string (bs x.1), .string (bs x.2)]] w fun e w' => e = .returned (.tuple #[.string (bs (lineL x)), .int .i64 0]) ∧ Below w.heap.size w w' := by
  have cO := fun w => pone x w hx1 hx2
  have cL := fun w => pline x w (by omega) (by omega)
  rw [ho] at cO
  unfold fldV at cO cL
  have CO := Lib.hid cO
  have CL := Lib.hid cL
  have e1 : (((0 : Nat) : Int) != 0) = false := rfl
  obtain ⟨W1, hW1⟩ : ∃ W1, w.alloc (.cells #[.string (bs x.1), .string (bs x.2)] 36) = W1 := ⟨_, rfl⟩
  have hB1 : Blk W1 w.heap.size 36 #[.string (bs x.1), .string (bs x.2)] := by rw [← hW1]; exact Blk.new _ _ _
  have hb1 : Below w.heap.size w W1 := by rw [← hW1]; exact (Below.refl _ _).alloc (Nat.le_refl _) _
  have p0 : W1.cell? ⟨w.heap.size, 0, none⟩ = some (.string (bs x.1)) := hB1.cell 0
  have p1 : W1.cell? ⟨w.heap.size, 1, none⟩ = some (.string (bs x.2)) := hB1.cell 1
  have HB1 := Lib.hid hB1
  clear cO cL hB1 ho
  go_enter Tryd.func17, Tryd.ntmps17
  go_wp2_with fail
  (with_reducible refine (CO.out _).mono ?_); rintro e w2 ⟨rfl, g2⟩
  have h2 := hb1.trans (g2.mono hb1.size)
  have hB2 := HB1.out.below g2 HB1.out.lt
  have q0 : w2.cell? ⟨w.heap.size, 0, none⟩ = some (.string (bs x.1)) := hB2.cell 0
  have q1 : w2.cell? ⟨w.heap.size, 1, none⟩ = some (.string (bs x.2)) := hB2.cell 1
  clear hB2 p0 p1 g2
  go_wp2_with fail
  (with_reducible refine (CL.out _).mono ?_); rintro e w3 ⟨rfl, g3⟩
  go_wp2_with fail
  go_ret2
  exact ⟨rfl, h2.trans (g3.mono h2.size)⟩

def readL (s : List UInt8) : Fld × Nat :=
  if 512 < s.length then (([], []), 4) else if (colT s).2.2 ≠ 0 then (([], []), (colT s).2.2) else if 512 < (lineL ((colT s).1, (colT s).2.1)).length then (([], []), 4) else (((colT s).1, (colT s).2.1), 0)
theorem colT_len (s : List UInt8) : (colT s).1.length ≤ s.length ∧ (colT s).2.1.length ≤ s.length := by
  have h := cutB_len 58 s
  obtain ⟨n, v, f, hX, hcol⟩ : ∃ n v f, cutB 58 s = (n, v, f) ∧ colT s = if (f && isTok n && isVal (trimL v)) = true then (n, trimL v, 0) else ([], [], 3) := ⟨_, _, _, rfl, rfl⟩
  rw [hX] at h
  simp only at h
  rw [hcol]
  have ht : (trimL v).length ≤ v.length := trimL_le v
  split
  · simp only; omega
  · simp

set_option maxRecDepth 100000 in
set_option maxHeartbeats 4000000 in
theorem pRead (s : ByteArray) (w : World) (hs : s.size ≤ 1000000) :
    Calls Tryd.prog 52 #[.string s] w fun e w' => e = .returned (.tuple #[.agg #[.string (bs (readL s.data.toList).1.1), .string (bs (readL s.data.toList).1.2)], .int .i64 (readL s.data.toList).2]) ∧ Below w.heap.size w w' := by
  have hz := size_l s
  by_cases h0 : 512 < s.size
  · have hR : readL s.data.toList = (([], []), 4) := by unfold readL; rw [if_pos (by omega)]
    rw [hR]
    have d1 : decide ((512 : Int) < (s.size : Int)) = true := by simp; omega
    clear hR hz
    go_enter Tryd.func52, Tryd.ntmps52
    go_wp2_with fail
    refine bodyPost_ret (results_cell_row_tmp (p := 2) (u := 3) (ty := 36) (by kernel_rfl) _ _ w.heap.size 36 #[.string (bs []), .string (bs [])] (0, 0) _ rfl (Blk.new w _ _) Tryd.underlying36 rfl (by kernel_rfl)) rfl ?_
    exact ⟨rfl, (Below.refl w.heap.size w).alloc (Nat.le_refl _) _⟩
  · have d1 : decide ((512 : Int) < (s.size : Int)) = false := by simp; omega
    have cC := fun w => TColon_any s w hs
    have hcl := colT_len s.data.toList
    obtain ⟨⟨n, v, e⟩, hC⟩ : ∃ y, colT s.data.toList = y := ⟨_, rfl⟩
    rw [hC] at cC hcl
    simp only at cC hcl
    have CC := Lib.hid cC
    obtain ⟨W1, hW1⟩ : ∃ W1, w.alloc (.cells #[.string ⟨#[]⟩, .string ⟨#[]⟩] 36) = W1 := ⟨_, rfl⟩
    have hB1 : Blk W1 w.heap.size 36 #[.string ⟨#[]⟩, .string ⟨#[]⟩] := by rw [← hW1]; exact Blk.new _ _ _
    have hb1 : Below w.heap.size w W1 := by rw [← hW1]; exact (Below.refl _ _).alloc (Nat.le_refl _) _
    have HB1 := Lib.hid (And.intro hB1 hb1)
    clear cC hB1 hb1
    subst hW1
    by_cases he : e = 0
    · subst he
      have e1 : (((0 : Nat) : Int) != 0) = false := rfl
      have cL := fun w => pline (n, v) w (by simp only; omega) (by simp only; omega)
      unfold fldV at cL
      simp only at cL
      have hll := bs_size (lineL (n, v))
      obtain ⟨L, hL⟩ : ∃ L, bs (lineL (n, v)) = L := ⟨_, rfl⟩
      rw [hL] at cL hll
      have CL := Lib.hid cL
      have hsz : s.data.toList.length ≤ 512 := by omega
      have HC := Lib.hid (And.intro hC (And.intro hll hsz))
      clear cL hL hcl hC hll hsz hz
      by_cases hg : 512 < L.size
      · have d2 : decide ((512 : Int) < (L.size : Int)) = true := by simp; omega
        have hR : readL s.data.toList = (([], []), 4) := by
          obtain ⟨hC, hll, hsz⟩ := HC.out
          unfold readL
          rw [if_neg (by omega), hC, if_neg (by simp), if_pos (by simp only; omega)]
        rw [hR]
        clear hR HC
        go_enter Tryd.func52, Tryd.ntmps52
        go_wp2_with fail
        (with_reducible refine (CC.out _).mono ?_); rintro e w2 ⟨rfl, g2⟩
        have hB2 := HB1.out.1.below g2 HB1.out.1.lt
        have hb2 := HB1.out.2.trans (g2.mono HB1.out.2.size)
        have HB2 := Lib.hid (And.intro hB2 hb2)
        clear hB2 hb2 g2
        go_wp2_with fail
        (with_reducible refine (CL.out _).mono ?_); rintro e w3 ⟨rfl, g3⟩
        have hB3 := (HB2.out.1.alloc (.cells #[.string (bs n), .string (bs v)] 36)).below g3 (HB2.out.1.alloc _).lt
        have h2a := HB2.out.2.alloc HB2.out.2.size (.cells #[.string (bs n), .string (bs v)] 36)
        have hb3 := h2a.trans (g3.mono h2a.size)
        have y0 := hB3.cell 0
        have y1 := hB3.cell 1
        have f0 := hB3.frozen 0
        have f1 := hB3.frozen 1
        have HB3 := Lib.hid (And.intro hB3 hb3)
        clear hB3 hb3 g3 h2a
        go_wp2_with fail
        refine bodyPost_ret (results_cell_row_tmp (p := 2) (u := 3) (ty := 36) (by kernel_rfl) _ _ w.heap.size 36 #[.string (bs []), .string (bs [])] (0, 0) _ rfl ((HB3.out.1.set_ 0 _).set_ 1 _) Tryd.underlying36 rfl (by kernel_rfl)) rfl ?_
        exact ⟨rfl, (HB3.out.2.setCell (p := ⟨w.heap.size, 0, none⟩) (Nat.le_refl _) _).setCell (p := ⟨w.heap.size, 1, none⟩) (Nat.le_refl _) _⟩
      · have d2 : decide ((512 : Int) < (L.size : Int)) = false := by simp; omega
        have hR : readL s.data.toList = ((n, v), 0) := by
          obtain ⟨hC, hll, hsz⟩ := HC.out
          unfold readL
          rw [if_neg (by omega), hC, if_neg (by simp), if_neg (by simp only; omega)]
        rw [hR]
        clear hR HC
        go_enter Tryd.func52, Tryd.ntmps52
        go_wp2_with fail
        (with_reducible refine (CC.out _).mono ?_); rintro e w2 ⟨rfl, g2⟩
        have hB2 := HB1.out.1.below g2 HB1.out.1.lt
        have hb2 := HB1.out.2.trans (g2.mono HB1.out.2.size)
        have HB2 := Lib.hid (And.intro hB2 hb2)
        clear hB2 hb2 g2
        go_wp2_with fail
        (with_reducible refine (CL.out _).mono ?_); rintro e w3 ⟨rfl, g3⟩
        have hB3 := (HB2.out.1.alloc (.cells #[.string (bs n), .string (bs v)] 36)).below g3 (HB2.out.1.alloc _).lt
        have hF3 := (Blk.new w2 36 #[.string (bs n), .string (bs v)]).below g3 (Blk.new w2 36 #[.string (bs n), .string (bs v)]).lt
        have h2a := HB2.out.2.alloc HB2.out.2.size (.cells #[.string (bs n), .string (bs v)] 36)
        have hb3 := h2a.trans (g3.mono h2a.size)
        have y0 := hB3.cell 0
        have y1 := hB3.cell 1
        have f0 := hB3.frozen 0
        have f1 := hB3.frozen 1
        have z0 : w3.cell? ⟨w2.heap.size, 0, none⟩ = some (.string (bs n)) := hF3.cell 0
        have z1 : w3.cell? ⟨w2.heap.size, 1, none⟩ = some (.string (bs v)) := hF3.cell 1
        have n1 : w2.heap.size ≠ w.heap.size := by have := HB2.out.1.lt; omega
        have HB3 := Lib.hid (And.intro hB3 hb3)
        clear hB3 hb3 g3 h2a hF3
        go_wp2_with fail
        refine bodyPost_ret (results_cell_row_tmp (p := 2) (u := 3) (ty := 36) (by kernel_rfl) _ _ w.heap.size 36 #[.string (bs n), .string (bs v)] (0, 0) _ rfl ((HB3.out.1.set_ 0 _).set_ 1 _) Tryd.underlying36 rfl (by kernel_rfl)) rfl ?_
        exact ⟨rfl, (HB3.out.2.setCell (p := ⟨w.heap.size, 0, none⟩) (Nat.le_refl _) _).setCell (p := ⟨w.heap.size, 1, none⟩) (Nat.le_refl _) _⟩
    · have e1 : ((e : Int) != 0) = true := by rw [bne_iff_ne]; omega
      have hR : readL s.data.toList = (([], []), e) := by
        unfold readL
        rw [if_neg (by omega), hC, if_pos he]
      rw [hR]
      clear hR hC hcl
      go_enter Tryd.func52, Tryd.ntmps52
      go_wp2_with fail
      (with_reducible refine (CC.out _).mono ?_); rintro e w2 ⟨rfl, g2⟩
      have hB2 := HB1.out.1.below g2 HB1.out.1.lt
      have hb2 := HB1.out.2.trans (g2.mono HB1.out.2.size)
      have y0 := hB2.cell 0
      have y1 := hB2.cell 1
      have f0 := hB2.frozen 0
      have f1 := hB2.frozen 1
      have HB2 := Lib.hid (And.intro hB2 hb2)
      clear hB2 hb2 g2
      go_wp2_with fail
      refine bodyPost_ret (results_cell_row_tmp (p := 2) (u := 3) (ty := 36) (by kernel_rfl) _ _ w.heap.size 36 #[.string (bs []), .string (bs [])] (0, 0) _ rfl ((HB2.out.1.set_ 0 _).set_ 1 _) Tryd.underlying36 rfl (by kernel_rfl)) rfl ?_
      exact ⟨rfl, (HB2.out.2.setCell (p := ⟨w.heap.size, 0, none⟩) (Nat.le_refl _) _).setCell (p := ⟨w.heap.size, 1, none⟩) (Nat.le_refl _) _⟩
end

section
open Go.RowKit

def nmT : List (List UInt8) := [[72, 111, 115, 116], [104, 111, 115, 116], [88, 45, 65], [120, 45, 97], [88, 45, 97], [65, 99, 99, 101, 112, 116]]
def vaT : List (List UInt8) := [[], [97], [49, 44, 32, 50], [98, 32, 99], [99, 108, 111, 115, 101], [120, 59, 121, 61, 34, 122, 34]]
def madeF (f : Fld) : Prop := f.1 ∈ nmT ∧ f.2 ∈ vaT
theorem madeF_one (f : Fld) (h : madeF f) : oneL f = 0 := by
  have key : ∀ a ∈ nmT, ∀ b ∈ vaT, oneL (a, b) = 0 := by decide +kernel
  exact key f.1 h.1 f.2 h.2
theorem madeF_back (f : Fld) (h : madeF f) : readL (lineL f) = (f, 0) := by
  have key : ∀ a ∈ nmT, ∀ b ∈ vaT, readL (lineL (a, b)) = ((a, b), 0) := by decide +kernel
  exact key f.1 h.1 f.2 h.2
theorem madeF_tok (f : Fld) (h : madeF f) : isTok f.1 = true := by
  have key : ∀ a ∈ nmT, isTok a = true := by decide +kernel
  exact key f.1 h.1
theorem madeF_len (f : Fld) (h : madeF f) : f.1.length ≤ 100 ∧ f.2.length ≤ 100 := by
  have k1 : ∀ a ∈ nmT, a.length ≤ 100 := by decide +kernel
  have k2 : ∀ a ∈ vaT, a.length ≤ 100 := by decide +kernel
  exact ⟨k1 f.1 h.1, k2 f.2 h.2⟩
theorem nmT_at (i : Nat) (h : i < 6) : ∃ y ∈ nmT, (#[.string ⟨#[72, 111, 115, 116]⟩, .string ⟨#[104, 111, 115, 116]⟩, .string ⟨#[88, 45, 65]⟩, .string ⟨#[120, 45, 97]⟩, .string ⟨#[88, 45, 97]⟩, .string ⟨#[65, 99, 99, 101, 112, 116]⟩] : Array Value)[i]? = some (.string (bs y)) := by
  obtain rfl | rfl | rfl | rfl | rfl | rfl : i = 0 ∨ i = 1 ∨ i = 2 ∨ i = 3 ∨ i = 4 ∨ i = 5 := by omega
  all_goals exact ⟨_, by unfold nmT; simp, rfl⟩
theorem vaT_at (i : Nat) (h : i < 6) : ∃ y ∈ vaT, (#[.string ⟨#[]⟩, .string ⟨#[97]⟩, .string ⟨#[49, 44, 32, 50]⟩, .string ⟨#[98, 32, 99]⟩, .string ⟨#[99, 108, 111, 115, 101]⟩, .string ⟨#[120, 59, 121, 61, 34, 122, 34]⟩] : Array Value)[i]? = some (.string (bs y)) := by
  obtain rfl | rfl | rfl | rfl | rfl | rfl : i = 0 ∨ i = 1 ∨ i = 2 ∨ i = 3 ∨ i = 4 ∨ i = 5 := by omega
  all_goals exact ⟨_, by unfold vaT; simp, rfl⟩

set_option maxRecDepth 100000 in
set_option maxHeartbeats 16000000 in
theorem made06 (A : Option Addr) (n c : Nat) (zs : List Int) (w : World) (hr : Reads w w.heap.size 1 A n (zs.map (Value.int .i64))) (hn : n ≤ 9223372036854775807) (hw : ∀ z ∈ zs, -9223372036854775808 ≤ z ∧ z ≤ 9223372036854775807) :
    Calls Tryd.prog 13 #[.slice A n c] w fun e w' => ∃ (B : Option Addr) (d : Nat) (l : List Fld), e = .returned (.slice B l.length d) ∧ l.length = min zs.length 12 ∧ l.length ≤ d ∧ (∀ f ∈ l, madeF f) ∧ Reads w' w'.heap.size 2 B l.length (fldsC l) ∧ Below w.heap.size w w' := by
  have hl : zs.length = n := by have := hr.1; simpa using this
  subst hl
  have HR := Lib.hid hr
  have HW := Lib.hid hw
  have CO := Lib.hid of_any
  obtain ⟨W1, hW1⟩ : ∃ W1, w.alloc (.cells #[.string ⟨#[72, 111, 115, 116]⟩, .string ⟨#[104, 111, 115, 116]⟩, .string ⟨#[88, 45, 65]⟩, .string ⟨#[120, 45, 97]⟩, .string ⟨#[88, 45, 97]⟩, .string ⟨#[65, 99, 99, 101, 112, 116]⟩] 9) = W1 := ⟨_, rfl⟩
  obtain ⟨W2, hW2⟩ : ∃ W2, W1.alloc (.cells #[.string ⟨#[]⟩, .string ⟨#[97]⟩, .string ⟨#[49, 44, 32, 50]⟩, .string ⟨#[98, 32, 99]⟩, .string ⟨#[99, 108, 111, 115, 101]⟩, .string ⟨#[120, 59, 121, 61, 34, 122, 34]⟩] 9) = W2 := ⟨_, rfl⟩
  have hs1 : W1.heap.size = w.heap.size + 1 := by rw [← hW1]; simp
  have hs2 : W2.heap.size = w.heap.size + 2 := by rw [← hW2]; simp [hs1]
  have k1 : Blk W1 w.heap.size 9 #[.string ⟨#[72, 111, 115, 116]⟩, .string ⟨#[104, 111, 115, 116]⟩, .string ⟨#[88, 45, 65]⟩, .string ⟨#[120, 45, 97]⟩, .string ⟨#[88, 45, 97]⟩, .string ⟨#[65, 99, 99, 101, 112, 116]⟩] := by rw [← hW1]; exact Blk.new _ _ _
  have k1 : Blk W2 w.heap.size 9 #[.string ⟨#[72, 111, 115, 116]⟩, .string ⟨#[104, 111, 115, 116]⟩, .string ⟨#[88, 45, 65]⟩, .string ⟨#[120, 45, 97]⟩, .string ⟨#[88, 45, 97]⟩, .string ⟨#[65, 99, 99, 101, 112, 116]⟩] := by rw [← hW2]; exact k1.alloc _
  have k2 : Blk W2 (w.heap.size + 1) 9 #[.string ⟨#[]⟩, .string ⟨#[97]⟩, .string ⟨#[49, 44, 32, 50]⟩, .string ⟨#[98, 32, 99]⟩, .string ⟨#[99, 108, 111, 115, 101]⟩, .string ⟨#[120, 59, 121, 61, 34, 122, 34]⟩] := by rw [← hW2, ← hs1]; exact Blk.new _ _ _
  have hb2 : Below w.heap.size w W2 := by rw [← hW2, ← hW1]; exact ((Below.refl _ _).alloc (Nat.le_refl _) _).alloc (by simp) _
  have HK := Lib.hid (And.intro k1 (And.intro k2 (And.intro hb2 hs2)))
  clear hr hw k1 k2 hb2 hs2 hs1
  subst hW2
  subst hW1
  go_enter Tryd.func13, Tryd.ntmps13
  go_wp2_with fail
  generalize (w.alloc _).alloc _ = W2 at HK ⊢
  go_loopw [5, 6] (fun o i wr => ∃ (k : Nat) (l : List Fld), i = .int .i64 k ∧ k ≤ zs.length ∧ k ≤ 12 ∧ l.length = k ∧ Hid ((∀ f ∈ l, madeF f) ∧ wr.ownsRow W2.heap.size 36 2 o l.length (fldsC l) ∧ Below W2.heap.size W2 wr)) (fun _ i _ => 12 - (intOf i).toNat)
  case atStart => exact ⟨0, [], rfl, by omega, by omega, rfl, hide ⟨by simp, World.ownsRow_nil _ _ _ _, Below.refl _ _⟩⟩
  case round =>
    obtain ⟨k, l, rfl, hk, hk12, hlk, HO⟩ := hrel
    rename World => W0
    by_cases hlt : k < zs.length ∧ k < 12
    · obtain ⟨hlt, h12⟩ := hlt
      have hbW := HK.out.2.2.1.trans (HO.out.2.2.mono HK.out.2.2.1.size)
      obtain ⟨b, o, rfl, hbl, hc⟩ := HR.out.lit (by omega)
      have c0 := (hbW.cell (p := ⟨b, o + k, none⟩) hbl).trans (hc k (.int .i64 zs[k]) (by simp [hlt]))
      obtain ⟨z, hz⟩ : ∃ z, zs[k] = z := ⟨_, rfl⟩
      have hzb := HW.out zs[k] (List.getElem_mem hlt)
      rw [hz] at c0 hzb
      have CM := Lib.hid (Mod_any z 1048576 W0 hzb.1 hzb.2 (by omega) (by omega))
      have i0 : (0 : Int) ≤ (k : Int) := by omega
      have i1 : (k : Int) < (zs.length : Int) := by omega
      have i2 : (k : Int) < 12 := by omega
      clear hc hz hzb
      go_wp2_with fail
      (with_reducible refine (CM.out).mono ?_); rintro e w1 ⟨r, hr0, hr1, rfl, rfl⟩
      obtain ⟨m, rfl⟩ := Int.eq_ofNat_of_zero_le hr0
      have kA := HK.out.1.below HO.out.2.2 HK.out.1.lt
      have kV := HK.out.2.1.below HO.out.2.2 HK.out.2.1.lt
      obtain ⟨ny, hny, hn1⟩ := nmT_at (m % 6) (Nat.mod_lt _ (by omega))
      obtain ⟨vy, hvy, hv1⟩ := vaT_at (m / 6 % 6) (Nat.mod_lt _ (by omega))
      have n0 : W0.cell? ⟨w.heap.size, m % 6, none⟩ = some (.string (bs ny)) := (kA.cell (m % 6)).trans hn1
      have v0 : W0.cell? ⟨w.heap.size + 1, m / 6 % 6, none⟩ = some (.string (bs vy)) := (kV.cell (m / 6 % 6)).trans hv1
      have q1 : Int.tmod (m : Int) 6 = ((m % 6 : Nat) : Int) := rfl
      have q2 : Int.tdiv (m : Int) 6 = ((m / 6 : Nat) : Int) := rfl
      have q3 : Int.tmod ((m / 6 : Nat) : Int) 6 = ((m / 6 % 6 : Nat) : Int) := rfl
      have hi1 : m % 6 < 6 := Nat.mod_lt _ (by omega)
      have hi2 : m / 6 % 6 < 6 := Nat.mod_lt _ (by omega)
      have hq0 : m / 6 ≤ m := Nat.div_le_self _ _
      obtain ⟨i1', hi1'⟩ : ∃ y, m % 6 = y := ⟨_, rfl⟩
      obtain ⟨q', hq'⟩ : ∃ y, m / 6 = y := ⟨_, rfl⟩
      rw [hq'] at v0 q2 q3 hi2 hq0
      obtain ⟨i2', hi2'⟩ : ∃ y, q' % 6 = y := ⟨_, rfl⟩
      rw [hi1'] at n0 q1 hi1
      rw [hi2'] at v0 q3 hi2
      clear hi1' hq' hi2' kA kV hn1 hv1 hr0
      have g1 : (0 : Int) ≤ (i1' : Int) := by omega
      have g2 : (i1' : Int) < 6 := by omega
      have g3 : (0 : Int) ≤ (i2' : Int) := by omega
      have g4 : (i2' : Int) < 6 := by omega
      have hs0 := HO.out.2.2.size
      have hs2 := HK.out.2.2.2
      have CX : Hid (∀ X, Hid (Below W0.heap.size W0 X) → Calls Tryd.prog 51 #[.string (bs ny), .string (bs vy)] X fun e w' => e = .returned (.agg #[.string (bs ny), .string (bs vy)]) ∧ Hid (Below W0.heap.size W0 w') ∧ (w'.cell? ⟨w.heap.size, i1', none⟩ = some (.string (bs ny)) ∧ w'.cell? ⟨w.heap.size + 1, i2', none⟩ = some (.string (bs vy)))) := hide fun X hX => (CO.out _ _ X).mono fun e w' ⟨he, hb'⟩ => ⟨he, hide (hX.out.trans (hb'.mono hX.out.size)), ((hX.out.trans (hb'.mono hX.out.size)).cell (p := ⟨w.heap.size, i1', none⟩) (by show w.heap.size < _; omega)).trans n0, ((hX.out.trans (hb'.mono hX.out.size)).cell (p := ⟨w.heap.size + 1, i2', none⟩) (by show w.heap.size + 1 < _; omega)).trans v0⟩
      have HD0 : Hid (Below W0.heap.size W0 W0.drew) := hide (Below.refl _ _).drew
      have hP : ∀ X, Hid (Below W0.heap.size W0 X) → W2.heap.size ≤ X.heap.size := fun X hX => Nat.le_trans HO.out.2.2.size hX.out.size
      have HB := Lib.hid hbW
      have HL1 : w.heap.size < W2.heap.size := by omega
      have HL2 : w.heap.size + 1 < W2.heap.size := by omega
      clear hs0 hs2 hbW
      have w1 : IntKind.i64.wrap (Int.tmod (m : Int) 6) = (i1' : Int) := by rw [q1, IntKind.wrap_i64]; omega
      have w2 : IntKind.i64.wrap (Int.tdiv (m : Int) 6) = (q' : Int) := by rw [q2, IntKind.wrap_i64]; omega
      have w3 : IntKind.i64.wrap (Int.tmod (q' : Int) 6) = (i2' : Int) := by rw [q3, IntKind.wrap_i64]; omega
      have w4 : IntKind.i64.wrap (q' : Int) = (q' : Int) := by rw [IntKind.wrap_i64]; omega
      have w5 : IntKind.i64.wrap (i1' : Int) = (i1' : Int) := by rw [IntKind.wrap_i64]; omega
      have w6 : IntKind.i64.wrap (i2' : Int) = (i2' : Int) := by rw [IntKind.wrap_i64]; omega
      clear hr1 hq0 i1 i2
      go_wp2_with fail
      go_region_held3 (fun w' => w'.cell? ⟨w.heap.size, i1', none⟩ = some (.string (bs ny)) ∧ w'.cell? ⟨w.heap.size + 1, i2', none⟩ = some (.string (bs vy))) (go_keep) (first
        | (go_at_call 51; (with_reducible refine (CX.out _ (by assumption)).mono ?_); rintro rr vb ⟨rfl, hvb, k1, k2⟩)
        | (obtain ⟨v', w5, hrun, hown, hb5, _⟩ := app_fld (own_below HO.out.2.1 hvb.out) (hP _ hvb) (by omega) (ny, vy); refine step_append_run hrun (by rfl) _ _ (by rfl) (by rfl) (by rfl) (by rfl) ?_; have z1 := (hb5.cell (p := ⟨w.heap.size, i1', none⟩) HL1).trans k1; have z2 := (hb5.cell (p := ⟨w.heap.size + 1, i2', none⟩) HL2).trans k2))
      have HX : Hid ((∀ f ∈ l ++ [(ny, vy)], madeF f) ∧ w5.ownsRow W2.heap.size 36 2 v' (l ++ [(ny, vy)]).length (fldsC (l ++ [(ny, vy)])) ∧ Below W2.heap.size W2 w5) := hide ⟨by
        intro f hf
        rcases List.mem_append.1 hf with h | h
        · exact HO.out.1 f h
        · simp at h; subst h; exact ⟨hny, hvy⟩, hown, (HO.out.2.2.trans (hvb.out.mono HO.out.2.2.size)).trans hb5⟩
      clear hown hb5 hvb z1 z2 k1 k2
      go_wp2_with fail
      go_roundw
      case rel => exact ⟨k + 1, _, by go_num, by omega, by omega, by simp; omega, HX⟩
      case measure => simp [intOf]; omega
    · have hl2 : l.length = min zs.length 12 := by omega
      obtain ⟨hm, hO, hb⟩ := HO.out
      obtain ⟨A', cap, rfl⟩ := own_slice hO
      have HQ := Lib.hid (And.intro (own_capA hO) (And.intro hm (And.intro (Reads.of_own hO) (HK.out.2.2.1.trans (hb.mono HK.out.2.2.1.size)))))
      clear hm hO hb HO
      by_cases hd : k < zs.length
      · have d1 : (12 : Int) ≤ (k : Int) := by omega
        have d2 : (k : Int) < (zs.length : Int) := by omega
        go_wp2_with fail
        go_ret
        exact ⟨A', cap, l, rfl, hl2, HQ.out⟩
      · have d1 : (zs.length : Int) ≤ (k : Int) := by omega
        go_wp2_with fail
        go_ret
        exact ⟨A', cap, l, rfl, hl2, HQ.out⟩
end

section
open Go.RowKit

set_option maxRecDepth 100000 in
set_option maxHeartbeats 4000000 in
theorem reads_hit (s : ByteArray) (x : Fld) (w : World) (hs : s.size ≤ 1000000) (h : readL s.data.toList = (x, 0)) :
    Calls Tryd.prog 18 #[.string s, .agg #[.string (bs x.1), .string (bs x.2)]] w fun e w' => e = .returned (.bool true) ∧ Below w.heap.size w w' := by
  have cR := fun w => pRead s w hs
  rw [h] at cR
  simp only at cR
  have CR := Lib.hid cR
  obtain ⟨W1, hW1⟩ : ∃ W1, w.alloc (.cells #[.string (bs x.1), .string (bs x.2)] 36) = W1 := ⟨_, rfl⟩
  have hB1 : Blk W1 w.heap.size 36 #[.string (bs x.1), .string (bs x.2)] := by rw [← hW1]; exact Blk.new _ _ _
  have hb1 : Below w.heap.size w W1 := by rw [← hW1]; exact (Below.refl _ _).alloc (Nat.le_refl _) _
  have HB1 := Lib.hid hB1
  clear cR h hB1
  have hq := eqFld (bs x.1) (bs x.2) (bs x.1) (bs x.2)
  have hqs := fld_same (x := x) (y := x) rfl
  rw [hqs] at hq
  clear hqs
  go_enter Tryd.func18, Tryd.ntmps18
  go_wp2_with fail
  (with_reducible refine (CR.out _).mono ?_); rintro e w2 ⟨rfl, g2⟩
  have h2 := hb1.trans (g2.mono hb1.size)
  have hB2 := (HB1.out.below g2 HB1.out.lt).alloc (.cells #[.string (bs x.1), .string (bs x.2)] 36)
  have h3 := h2.alloc h2.size (.cells #[.string (bs x.1), .string (bs x.2)] 36)
  have hF := Blk.new w2 36 #[.string (bs x.1), .string (bs x.2)]
  have p0 := hB2.cell 0
  have p1 := hB2.cell 1
  have n1 : w2.heap.size ≠ w.heap.size := by have := (HB1.out.below g2 HB1.out.lt).lt; omega
  clear g2 hB2
  go_wp2_with fail
  go_ret
  exact ⟨rfl, h3⟩

set_option maxRecDepth 100000 in
theorem fails_hit (A : Option Addr) (n c : Nat) (l : List Fld) (E i : Nat) (w : World) (hr : Reads w w.heap.size 2 A n (fldsC l)) (hn : n ≤ 1000000) (hl : fldsOk l) (h : checkL l = (E, i)) :
    Calls Tryd.prog 55 #[.slice A n c, .int .i64 E, .int .i64 i] w fun e w' => e = .returned (.bool true) ∧ Below w.heap.size w w' := by
  have cC := pCheckF A n c l w hr hn hl
  rw [h] at cC
  simp only at cC
  have CC := Lib.hid cC
  clear cC h hr hl
  go_enter Tryd.func55, Tryd.ntmps55
  go_wp2_with fail
  (with_reducible refine (CC.out).mono ?_); rintro e w2 ⟨rfl, g2⟩
  go_wp2_with fail
  go_ret
  exact ⟨rfl, g2⟩
end

section
open Go.RowKit

theorem strs_one2 (a b : ByteArray) : (#[Value.string a, Value.string b] : Array Value).toList = strs [a.data.toList, b.data.toList] := rfl
theorem emptyF_ok : fldsOk (List.replicate 33 (([], []) : Fld)) := by
  intro f hf
  rw [List.eq_of_mem_replicate hf]
  simp

set_option maxRecDepth 100000 in
set_option maxHeartbeats 32000000 in
theorem FieldKnown_true (w : World) : Calls Tryd.prog 12 #[] w fun e w' => e = .returned (.bool true) ∧ Below w.heap.size w w' := by
  have CL := Lib.hid list_any
  have CO := Lib.hid of_any
  have AW := Lib.hid awake06
  have cG1 := fun A w (hr : Reads w w.heap.size 2 A 3 (fldsC exL)) => pGet A 3 3 exL ⟨#[121]⟩ w hr (by omega) exL_ok (by decide)
  rw [show askL exL [(⟨#[121]⟩ : ByteArray).data.toList] = 0 by decide +kernel, show getT (allL (⟨#[121]⟩ : ByteArray).data.toList exL) = ([], false) by decide +kernel] at cG1
  have cG3 := fun A w (hr : Reads w w.heap.size 2 A 3 (fldsC exL)) => pGet A 3 3 exL ⟨#[97, 32, 98]⟩ w hr (by omega) exL_ok (by decide)
  rw [show askL exL [(⟨#[97, 32, 98]⟩ : ByteArray).data.toList] = 11 by decide +kernel, show getT (allL (⟨#[97, 32, 98]⟩ : ByteArray).data.toList exL) = ([], false) by decide +kernel] at cG3
  have cA2 := fun A w (hr : Reads w w.heap.size 2 A 3 (fldsC exL)) => pAll A 3 3 exL ⟨#[120, 45, 65]⟩ w hr (by omega) exL_ok (by decide)
  unfold AllPost at cA2
  rw [show askL exL [(⟨#[120, 45, 65]⟩ : ByteArray).data.toList] = 0 by decide +kernel, show allL (⟨#[120, 45, 65]⟩ : ByteArray).data.toList exL = [[49], [50]] by decide +kernel] at cA2
  have cD4 : ∀ A w, Reads w w.heap.size 2 A 3 (fldsC exL) → Calls Tryd.prog 50 #[.slice A 3 3, .agg #[.string ⟨#[88, 45, 65]⟩, .string ⟨#[51]⟩]] w (FldsPost (addL exL ([88, 45, 65], [51])) (addE exL ([88, 45, 65], [51])) w) := fun A w hr => pAdd A 3 3 exL ([88, 45, 65], [51]) w hr (by omega) exL_ok (by decide) (by decide)
  unfold FldsPost at cD4
  rw [show addE exL ([88, 45, 65], [51]) = 0 by decide +kernel, show (addL exL ([88, 45, 65], [51])).length = 4 by decide +kernel] at cD4
  have cD5 := fun A B w (hr : Reads w w.heap.size 2 A 3 (fldsC exL)) (hs : Reads w w.heap.size 1 B 2 (strs [[120, 45, 97], [121]])) => pDrop A B 3 3 2 2 exL [[120, 45, 97], [121]] w hr hs (by omega) (by omega) exL_ok (by decide)
  unfold DropPost at cD5
  rw [show askL exL [[120, 45, 97], [121]] = 0 by decide +kernel, show dropN [[120, 45, 97], [121]] exL = 2 by decide +kernel, show dropR [[120, 45, 97], [121]] exL = [([72, 111, 115, 116], [97])] by decide +kernel] at cD5
  have cN6 := fun A w (hr : Reads w w.heap.size 2 A 3 (fldsC exL)) => pNames A 3 3 exL w hr (by omega) exL_ok (by decide +kernel)
  rw [show namesL exL = [[104, 111, 115, 116], [120, 45, 97]] by decide +kernel] at cN6
  have cL7 : ∀ w, Calls Tryd.prog 17 #[.agg #[.string ⟨#[89]⟩, .string ⟨#[]⟩]] w _ := fun w => pLine ([89], []) w (by decide) (by decide) (by decide +kernel)
  rw [show bs (lineL ([89], [])) = ⟨#[89, 58]⟩ by decide +kernel] at cL7
  have cR8 := fun w => pRead ⟨#[89, 32, 58, 32, 97]⟩ w (by decide)
  rw [show readL (⟨#[89, 32, 58, 32, 97]⟩ : ByteArray).data.toList = (([], []), 3) by decide +kernel] at cR8
  have cR9 := fun w => pRead ⟨#[32, 89, 58, 32, 97]⟩ w (by decide)
  rw [show readL (⟨#[32, 89, 58, 32, 97]⟩ : ByteArray).data.toList = (([], []), 3) by decide +kernel] at cR9
  have cG10 := fun w => gets_hit ⟨#[88, 45, 97]⟩ ⟨#[49]⟩ w (by decide) (by decide +kernel) (by decide +kernel)
  have cX1 : ∀ w, Calls Tryd.prog 18 #[.string ⟨#[89, 58]⟩, .agg #[.string ⟨#[89]⟩, .string ⟨#[]⟩]] w _ := fun w => reads_hit ⟨#[89, 58]⟩ ([89], []) w (by decide) (by decide +kernel)
  have cX2 : ∀ w, Calls Tryd.prog 18 #[.string ⟨#[89, 58, 32, 32, 97, 32, 98, 32]⟩, .agg #[.string ⟨#[89]⟩, .string ⟨#[97, 32, 98]⟩]] w _ := fun w => reads_hit ⟨#[89, 58, 32, 32, 97, 32, 98, 32]⟩ ([89], [97, 32, 98]) w (by decide) (by decide +kernel)
  have cF1 : ∀ A w, Reads w w.heap.size 2 A 1 (fldsC [([65, 32, 66], [49])]) → Calls Tryd.prog 55 #[.slice A 1 1, .int .i64 11, .int .i64 0] w _ := fun A w hr => fails_hit A 1 1 [([65, 32, 66], [49])] 11 0 w hr (by omega) (by intro f hf; simp at hf; subst hf; simp) (by decide +kernel)
  have cF2 : ∀ A w, Reads w w.heap.size 2 A 1 (fldsC [([65], [32, 120])]) → Calls Tryd.prog 55 #[.slice A 1 1, .int .i64 3, .int .i64 0] w _ := fun A w hr => fails_hit A 1 1 [([65], [32, 120])] 3 0 w hr (by omega) (by intro f hf; simp at hf; subst hf; simp) (by decide +kernel)
  have cF3 : ∀ A w, Reads w w.heap.size 2 A 33 (fldsC (List.replicate 33 ([], []))) → Calls Tryd.prog 55 #[.slice A 33 33, .int .i64 5, .int .i64 0] w _ := fun A w hr => fails_hit A 33 33 (List.replicate 33 ([], [])) 5 0 w hr (by omega) emptyF_ok (by decide +kernel)
  rw [show bs [] = ⟨#[]⟩ from rfl] at cG1
  rw [show bs [] = ⟨#[]⟩ from rfl] at cG3
  rw [show bs [] = ⟨#[]⟩ from rfl] at cR8
  rw [show bs [] = ⟨#[]⟩ from rfl] at cR9
  have CG1 := Lib.hid cG1
  have CA2 := Lib.hid cA2
  have CG3 := Lib.hid cG3
  have CD4 := Lib.hid cD4
  have CD5 := Lib.hid cD5
  have CN6 := Lib.hid cN6
  have CL7 := Lib.hid cL7
  have CR8 := Lib.hid cR8
  have CR9 := Lib.hid cR9
  have CG10 := Lib.hid cG10
  have CX1 := Lib.hid cX1
  have CX2 := Lib.hid cX2
  have CF1 := Lib.hid cF1
  have CF2 := Lib.hid cF2
  have CF3 := Lib.hid cF3
  clear cG1 cA2 cG3 cD4 cD5 cN6 cL7 cR8 cR9 cG10 cX1 cX2 cF1 cF2 cF3
  go_enter Tryd.func12, Tryd.ntmps12
  go_wp2_with fail
  (with_reducible refine (CL.out _).mono ?_); rintro e w1 ⟨A, rfl, hr, g⟩
  have h1 := g
  have HL := Lib.hid hr
  clear hr
  clear g
  go_wp2_with fail
  (with_reducible refine (CG1.out _ _ HL.out).mono ?_); rintro e w2 ⟨rfl, g⟩
  have h2 := h1.trans (g.mono h1.size)
  have HL := Lib.hid ((HL.out.below g).more g.size)
  clear g h1
  clear HL
  go_wp2_with fail
  (with_reducible refine (CL.out _).mono ?_); rintro e w3 ⟨A, rfl, hr, g⟩
  have h3 := h2.trans (g.mono h2.size)
  have HL := Lib.hid hr
  clear hr
  clear g h2
  go_wp2_with fail
  (with_reducible refine (CA2.out _ _ HL.out).mono ?_); rintro e w4 ⟨A2, q2, rfl, _, hr, g⟩
  have h4 := h3.trans (g.mono h3.size)
  have HL := Lib.hid ((HL.out.below g).more g.size)
  have HA2 := Lib.hid hr
  clear hr
  clear g h3
  clear HL
  go_wp2_with fail
  (with_reducible refine (CL.out _).mono ?_); rintro e w5 ⟨A, rfl, hr, g⟩
  have h5 := h4.trans (g.mono h4.size)
  have HA2 := Lib.hid ((HA2.out.below g).more g.size)
  have HL := Lib.hid hr
  clear hr
  clear g h4
  go_wp2_with fail
  (with_reducible refine (CG3.out _ _ HL.out).mono ?_); rintro e w6 ⟨rfl, g⟩
  have h6 := h5.trans (g.mono h5.size)
  have HA2 := Lib.hid ((HA2.out.below g).more g.size)
  have HL := Lib.hid ((HL.out.below g).more g.size)
  clear g h5
  clear HL
  go_wp2_with fail
  (with_reducible refine (CL.out _).mono ?_); rintro e w7 ⟨A, rfl, hr, g⟩
  have h7 := h6.trans (g.mono h6.size)
  have HA2 := Lib.hid ((HA2.out.below g).more g.size)
  have HL := Lib.hid hr
  clear hr
  clear g h6
  go_wp2_with fail
  (with_reducible refine (CO.out _ _ _).mono ?_); rintro e w8 ⟨rfl, g⟩
  have h8 := h7.trans (g.mono h7.size)
  have HA2 := Lib.hid ((HA2.out.below g).more g.size)
  have HL := Lib.hid ((HL.out.below g).more g.size)
  clear g h7
  go_wp2_with fail
  (with_reducible refine (CD4.out _ _ HL.out).mono ?_); rintro e w9 ⟨A4, q4, rfl, _, _, g⟩
  have h9 := h8.trans (g.mono h8.size)
  have HA2 := Lib.hid ((HA2.out.below g).more g.size)
  have HL := Lib.hid ((HL.out.below g).more g.size)
  clear g h8
  clear HL
  go_wp2_with fail
  (with_reducible refine (CL.out _).mono ?_); rintro e w10 ⟨A, rfl, hr, g⟩
  have h10 := h9.trans (g.mono h9.size)
  have HA2 := Lib.hid ((HA2.out.below g).more g.size)
  have HL := Lib.hid hr
  clear hr
  clear g h9
  go_wp2_with fail
  have g := (Below.refl w10.heap.size w10).alloc (Nat.le_refl _) (.cells #[.string ⟨#[120, 45, 97]⟩, .string ⟨#[121]⟩] 9)
  have HS := Lib.hid (reads_new w10 9 [[120, 45, 97], [121]] #[.string ⟨#[120, 45, 97]⟩, .string ⟨#[121]⟩] (strs_one2 _ _))
  have h11 := h10.trans (g.mono h10.size)
  have HA2 := Lib.hid ((HA2.out.below g).more g.size)
  have HL := Lib.hid ((HL.out.below g).more g.size)
  generalize hgw : w10.alloc (.cells #[.string ⟨#[120, 45, 97]⟩, .string ⟨#[121]⟩] 9) = w11 at *
  clear hgw g h10
  go_wp2_with fail
  (with_reducible refine (CD5.out _ _ _ HL.out HS.out).mono ?_); rintro e w12 ⟨A5, q5, rfl, _, hr, g⟩
  have h12 := h11.trans (g.mono h11.size)
  have HA2 := Lib.hid ((HA2.out.below g).more g.size)
  have HL := Lib.hid ((HL.out.below g).more g.size)
  have HA5 := Lib.hid hr
  clear hr
  clear g h11
  clear HL
  clear HS
  go_wp2_with fail
  (with_reducible refine (CL.out _).mono ?_); rintro e w13 ⟨A, rfl, hr, g⟩
  have h13 := h12.trans (g.mono h12.size)
  have HA2 := Lib.hid ((HA2.out.below g).more g.size)
  have HA5 := Lib.hid ((HA5.out.below g).more g.size)
  have HL := Lib.hid hr
  clear hr
  clear g h12
  go_wp2_with fail
  (with_reducible refine (CN6.out _ _ HL.out).mono ?_); rintro e w14 ⟨A6, q6, rfl, _, hr, g⟩
  have h14 := h13.trans (g.mono h13.size)
  have HA2 := Lib.hid ((HA2.out.below g).more g.size)
  have HA5 := Lib.hid ((HA5.out.below g).more g.size)
  have HL := Lib.hid ((HL.out.below g).more g.size)
  have HA6 := Lib.hid hr
  clear hr
  clear g h13
  clear HL
  go_wp2_with fail
  (with_reducible refine (CO.out _ _ _).mono ?_); rintro e w15 ⟨rfl, g⟩
  have h15 := h14.trans (g.mono h14.size)
  have HA2 := Lib.hid ((HA2.out.below g).more g.size)
  have HA5 := Lib.hid ((HA5.out.below g).more g.size)
  have HA6 := Lib.hid ((HA6.out.below g).more g.size)
  clear g h14
  go_wp2_with fail
  (with_reducible refine (CL7.out _).mono ?_); rintro e w16 ⟨rfl, g⟩
  have h16 := h15.trans (g.mono h15.size)
  have HA2 := Lib.hid ((HA2.out.below g).more g.size)
  have HA5 := Lib.hid ((HA5.out.below g).more g.size)
  have HA6 := Lib.hid ((HA6.out.below g).more g.size)
  clear g h15
  go_wp2_with fail
  (with_reducible refine (CR8.out _).mono ?_); rintro e w17 ⟨rfl, g⟩
  have h17 := h16.trans (g.mono h16.size)
  have HA2 := Lib.hid ((HA2.out.below g).more g.size)
  have HA5 := Lib.hid ((HA5.out.below g).more g.size)
  have HA6 := Lib.hid ((HA6.out.below g).more g.size)
  clear g h16
  go_wp2_with fail
  have g := (Below.refl w17.heap.size w17).alloc (Nat.le_refl _) (.cells #[.string ⟨#[]⟩, .string ⟨#[]⟩] 36)
  have h18 := h17.trans (g.mono h17.size)
  have HA2 := Lib.hid ((HA2.out.below g).more g.size)
  have HA5 := Lib.hid ((HA5.out.below g).more g.size)
  have HA6 := Lib.hid ((HA6.out.below g).more g.size)
  generalize hgw : w17.alloc (.cells #[.string ⟨#[]⟩, .string ⟨#[]⟩] 36) = w18 at *
  clear hgw g h17
  go_wp2_with fail
  (with_reducible refine (CR9.out _).mono ?_); rintro e w19 ⟨rfl, g⟩
  have h19 := h18.trans (g.mono h18.size)
  have HA2 := Lib.hid ((HA2.out.below g).more g.size)
  have HA5 := Lib.hid ((HA5.out.below g).more g.size)
  have HA6 := Lib.hid ((HA6.out.below g).more g.size)
  clear g h18
  go_wp2_with fail
  have g := (Below.refl w19.heap.size w19).alloc (Nat.le_refl _) (.cells #[.string ⟨#[]⟩, .string ⟨#[]⟩] 36)
  have h20 := h19.trans (g.mono h19.size)
  have HA2 := Lib.hid ((HA2.out.below g).more g.size)
  have HA5 := Lib.hid ((HA5.out.below g).more g.size)
  have HA6 := Lib.hid ((HA6.out.below g).more g.size)
  generalize hgw : w19.alloc (.cells #[.string ⟨#[]⟩, .string ⟨#[]⟩] 36) = w20 at *
  clear hgw g h19
  go_wp2_with fail
  (with_reducible refine (CG10.out _).mono ?_); rintro e w21 ⟨rfl, g⟩
  have h21 := h20.trans (g.mono h20.size)
  have HA2 := Lib.hid ((HA2.out.below g).more g.size)
  have HA5 := Lib.hid ((HA5.out.below g).more g.size)
  have HA6 := Lib.hid ((HA6.out.below g).more g.size)
  clear g h20
  go_wp2_with fail
  have g := (Below.refl w21.heap.size w21).alloc (Nat.le_refl _) (.cells #[.string ⟨#[49]⟩, .string ⟨#[50]⟩] 9)
  have HS := Lib.hid (reads_new w21 9 [[49], [50]] #[.string ⟨#[49]⟩, .string ⟨#[50]⟩] (strs_one2 _ _))
  have h22 := h21.trans (g.mono h21.size)
  have HA2 := Lib.hid ((HA2.out.below g).more g.size)
  have HA5 := Lib.hid ((HA5.out.below g).more g.size)
  have HA6 := Lib.hid ((HA6.out.below g).more g.size)
  generalize hgw : w21.alloc (.cells #[.string ⟨#[49]⟩, .string ⟨#[50]⟩] 9) = w22 at *
  clear hgw g h21
  have cS := SameTexts_any A2 (some ⟨w21.heap.size, 0, none⟩) 2 2 q2 2 [[49], [50]] [[49], [50]] w22 HA2.out HS.out (by omega) (by omega)
  rw [beq_self_eq_true] at cS
  have CS := Lib.hid cS
  clear cS HS
  clear HA2
  (with_reducible refine (CS.out).mono ?_); rintro e w23 ⟨rfl, m23, rfl⟩
  have g := below_drewN (Below.refl w22.heap.size w22) m23
  have h23 := h22.trans (g.mono h22.size)
  have HA5 := Lib.hid ((HA5.out.below g).more g.size)
  have HA6 := Lib.hid ((HA6.out.below g).more g.size)
  generalize hgw : w22.drewN m23 = w23 at *
  clear hgw g h22 CS
  go_wp2_with fail
  (with_reducible refine (CO.out _ _ _).mono ?_); rintro e w24 ⟨rfl, g⟩
  have h24 := h23.trans (g.mono h23.size)
  have HA5 := Lib.hid ((HA5.out.below g).more g.size)
  have HA6 := Lib.hid ((HA6.out.below g).more g.size)
  clear g h23
  go_wp2_with fail
  have g := (Below.refl w24.heap.size w24).alloc (Nat.le_refl _) (.cells #[.string ⟨#[72, 111, 115, 116]⟩, .string ⟨#[97]⟩] 36)
  have HS := Lib.hid (reads_newF w24 36 [([72, 111, 115, 116], [97])] #[.string ⟨#[72, 111, 115, 116]⟩, .string ⟨#[97]⟩] rfl)
  have h25 := h24.trans (g.mono h24.size)
  have HA5 := Lib.hid ((HA5.out.below g).more g.size)
  have HA6 := Lib.hid ((HA6.out.below g).more g.size)
  generalize hgw : w24.alloc (.cells #[.string ⟨#[72, 111, 115, 116]⟩, .string ⟨#[97]⟩] 36) = w25 at *
  clear hgw g h24
  have cS := SameFields_any A5 (some ⟨w24.heap.size, 0, none⟩) 1 1 q5 1 [([72, 111, 115, 116], [97])] [([72, 111, 115, 116], [97])] w25 HA5.out HS.out (by omega) (by omega)
  rw [decide_eq_true rfl] at cS
  have CS := Lib.hid cS
  clear cS HS
  clear HA5
  (with_reducible refine (CS.out).mono ?_); rintro e w26 ⟨rfl, m26, rfl⟩
  have g := below_drewN (Below.refl w25.heap.size w25) m26
  have h26 := h25.trans (g.mono h25.size)
  have HA6 := Lib.hid ((HA6.out.below g).more g.size)
  generalize hgw : w25.drewN m26 = w26 at *
  clear hgw g h25 CS
  go_wp2_with fail
  have g := (Below.refl w26.heap.size w26).alloc (Nat.le_refl _) (.cells #[.string ⟨#[104, 111, 115, 116]⟩, .string ⟨#[120, 45, 97]⟩] 9)
  have HS := Lib.hid (reads_new w26 9 [[104, 111, 115, 116], [120, 45, 97]] #[.string ⟨#[104, 111, 115, 116]⟩, .string ⟨#[120, 45, 97]⟩] (strs_one2 _ _))
  have h27 := h26.trans (g.mono h26.size)
  have HA6 := Lib.hid ((HA6.out.below g).more g.size)
  generalize hgw : w26.alloc (.cells #[.string ⟨#[104, 111, 115, 116]⟩, .string ⟨#[120, 45, 97]⟩] 9) = w27 at *
  clear hgw g h26
  have cS := SameTexts_any A6 (some ⟨w26.heap.size, 0, none⟩) 2 2 q6 2 [[104, 111, 115, 116], [120, 45, 97]] [[104, 111, 115, 116], [120, 45, 97]] w27 HA6.out HS.out (by omega) (by omega)
  rw [beq_self_eq_true] at cS
  have CS := Lib.hid cS
  clear cS HS
  clear HA6
  (with_reducible refine (CS.out).mono ?_); rintro e w28 ⟨rfl, m28, rfl⟩
  have g := below_drewN (Below.refl w27.heap.size w27) m28
  have h28 := h27.trans (g.mono h27.size)
  generalize hgw : w27.drewN m28 = w28 at *
  clear hgw g h27 CS
  go_wp2_with fail
  (with_reducible refine (CO.out _ _ _).mono ?_); rintro e w29 ⟨rfl, g⟩
  have h29 := h28.trans (g.mono h28.size)
  clear g h28
  go_wp2_with fail
  (with_reducible refine (CX1.out _).mono ?_); rintro e w30 ⟨rfl, g⟩
  have h30 := h29.trans (g.mono h29.size)
  clear g h29
  go_wp2_with fail
  (with_reducible refine (CO.out _ _ _).mono ?_); rintro e w31 ⟨rfl, g⟩
  have h31 := h30.trans (g.mono h30.size)
  clear g h30
  go_wp2_with fail
  (with_reducible refine (CX2.out _).mono ?_); rintro e w32 ⟨rfl, g⟩
  have h32 := h31.trans (g.mono h31.size)
  clear g h31
  obtain ⟨i0, hi, hz0, hz1, hz2⟩ := info_parts infoFldA
  have hbs : w32.heap.size ≤ w32.heap.size := Nat.le_refl _
  go_wp2_with (at_make; refine wpList_make_full _ rfl _ _ 24 rfl w32.heap.size 36 i0 (.agg #[.string .empty, .string .empty]) 2 Tryd.underlying24 hi hz0 hz1 _ _ _ _ 33 rfl rfl rfl rfl (by rw [hz2]; decide) (by decide) hbs ?_; intro wM hown hgM)
  have g : Below w32.heap.size w32 wM := (Below.refl _ _).grown hgM (Nat.le_refl _) (fun k hk => by cases hk)
  have hr := Reads.of_own hown
  rw [show (madeCells (Value.agg #[.string .empty, .string .empty]).cells (33 * 2)).toList = fldsC (List.replicate 33 ([], [])) by kernel_rfl] at hr
  have HM := Lib.hid hr
  have h33 := h32.trans (g.mono h32.size)
  clear g hr hown hgM hbs hi hz0 hz1 hz2 h32
  generalize hgw : wM = w33 at *
  clear hgw
  go_wp2_with fail
  (with_reducible refine (AW.out _).mono ?_); rintro e w34 ⟨rfl, g⟩
  have h34 := h33.trans (g.mono h33.size)
  have HM := Lib.hid ((HM.out.below g).more g.size)
  clear g h33
  go_wp2_with fail
  (with_reducible refine (CO.out _ _ _).mono ?_); rintro e w35 ⟨rfl, g⟩
  have h35 := h34.trans (g.mono h34.size)
  have HM := Lib.hid ((HM.out.below g).more g.size)
  clear g h34
  go_wp2_with fail
  have g := (Below.refl w35.heap.size w35).alloc (Nat.le_refl _) (.cells #[.string ⟨#[65, 32, 66]⟩, .string ⟨#[49]⟩] 36)
  have HS := Lib.hid (reads_newF w35 36 [([65, 32, 66], [49])] #[.string ⟨#[65, 32, 66]⟩, .string ⟨#[49]⟩] rfl)
  have h36 := h35.trans (g.mono h35.size)
  have HM := Lib.hid ((HM.out.below g).more g.size)
  generalize hgw : w35.alloc (.cells #[.string ⟨#[65, 32, 66]⟩, .string ⟨#[49]⟩] 36) = w36 at *
  clear hgw g h35
  go_wp2_with fail
  (with_reducible refine (CF1.out _ _ HS.out).mono ?_); rintro e w37 ⟨rfl, g⟩
  have h37 := h36.trans (g.mono h36.size)
  have HM := Lib.hid ((HM.out.below g).more g.size)
  clear g h36
  clear HS
  go_wp2_with fail
  (with_reducible refine (CO.out _ _ _).mono ?_); rintro e w38 ⟨rfl, g⟩
  have h38 := h37.trans (g.mono h37.size)
  have HM := Lib.hid ((HM.out.below g).more g.size)
  clear g h37
  go_wp2_with fail
  have g := (Below.refl w38.heap.size w38).alloc (Nat.le_refl _) (.cells #[.string ⟨#[65]⟩, .string ⟨#[32, 120]⟩] 36)
  have HS := Lib.hid (reads_newF w38 36 [([65], [32, 120])] #[.string ⟨#[65]⟩, .string ⟨#[32, 120]⟩] rfl)
  have h39 := h38.trans (g.mono h38.size)
  have HM := Lib.hid ((HM.out.below g).more g.size)
  generalize hgw : w38.alloc (.cells #[.string ⟨#[65]⟩, .string ⟨#[32, 120]⟩] 36) = w39 at *
  clear hgw g h38
  go_wp2_with fail
  (with_reducible refine (CF2.out _ _ HS.out).mono ?_); rintro e w40 ⟨rfl, g⟩
  have h40 := h39.trans (g.mono h39.size)
  have HM := Lib.hid ((HM.out.below g).more g.size)
  clear g h39
  clear HS
  go_wp2_with fail
  (with_reducible refine (CF3.out _ _ HM.out).mono ?_); rintro e w41 ⟨rfl, g⟩
  have h41 := h40.trans (g.mono h40.size)
  have HM := Lib.hid ((HM.out.below g).more g.size)
  clear g h40
  go_wp2_with fail
  go_ret
  exact ⟨rfl, h41⟩
end
end Go.Proofs.YtpdohlnobbimaaaDoor
