/-
  The laws of chunked bodies: lines, decodes, encodes, awake.
-/
import Derived.Test.YtkbihipgnlglbaaGreatDoorEnM
import Derived.Test.YtkbihipgnlglbaaGreatDoorPhM
namespace Go.Proofs.YtkbihipgnlglbaaGreatDoor
open Go.RowKit

/-- what the package variables of the library hold -/
def Held10 (w : World) : Prop := Tabs w ∧ ErrS w
theorem Held10.below {w w' : World} (h : Held10 w) (hb : Below w.heap.size w w') : Held10 w' := ⟨h.1.below hb, h.2.below hb⟩
theorem extL10 (s : ByteArray) (a b : Nat) (_hab : a ≤ b) (_hb : b ≤ s.size) : (s.extract a b).data.toList = (s.data.toList.take b).drop a := by
  rw [Lib.extract_data, List.take_drop]
  try (congr 2; omega)
theorem extS10 (s : ByteArray) (a k : Nat) (hab : a ≤ k) (hk : k < s.size) : (s.extract a (k + 1)).data.toList = (s.extract a k).data.toList ++ [s[k]] := by
  have hl : k < s.data.toList.length := by rw [size_l]; exact hk
  rw [extL10 s a (k + 1) (by omega) (by omega), extL10 s a k hab (by omega), List.take_succ_eq_append_getElem hl, List.drop_append_of_le_length (by simp; omega)]
  rfl
theorem linesT_app (a b : List UInt8) : linesT (a ++ b) = linesT a ++ linesT b := by
  induction a with
  | nil => rfl
  | cons x a ih => simp only [List.cons_append, linesT]; rw [ih, List.append_assoc]
theorem linesT_len (a : List UInt8) : (linesT a).length ≤ 2 * a.length := by
  induction a with
  | nil => simp [linesT]
  | cons x a ih =>
    simp only [linesT, List.length_append, List.length_cons]
    split <;> simp <;> omega
theorem bs_of (s : ByteArray) : bs s.data.toList = s := by apply ba_ext; rfl
set_option maxRecDepth 100000 in
set_option maxHeartbeats 4000000 in
theorem lines10 (s : ByteArray) (hs : s.size ≤ 1000) (w : World) : Calls Tryz.prog 24 #[.string s] w fun e w' => e = .returned (.string (bs (linesT s.data.toList))) ∧ w' = w := by
  go_enter Tryz.func24, Tryz.ntmps24
  go_wp2_with fail
  go_loopw [3, 4] (fun a i wr => ∃ k : Nat, a = .string (bs (linesT (s.data.toList.take k))) ∧ i = .int .i64 k ∧ k ≤ s.size ∧ wr = w) (fun _ i _ => s.size - (intOf i).toNat)
  case atStart => exact ⟨0, rfl, rfl, by omega, rfl⟩
  case round =>
    obtain ⟨k, rfl, rfl, hk, rfl⟩ := hrel
    by_cases hlt : k < s.size
    · obtain ⟨x, hx⟩ : ∃ x, s[k] = x := ⟨_, rfl⟩
      have hll : k < s.data.toList.length := by rw [size_l]; exact hlt
      have hxx : s.data.toList[k] = x := by rw [← hx]; simp; rfl
      have htk : linesT (s.data.toList.take (k + 1)) = linesT (s.data.toList.take k) ++ (if x = 47 then [13, 10] else [x]) := by
        rw [List.take_succ_eq_append_getElem hll, linesT_app, hxx]; simp [linesT]
      have hlen := linesT_len (s.data.toList.take k)
      rw [List.length_take] at hlen
      obtain ⟨D, hD⟩ : ∃ D, bs (linesT (s.data.toList.take k)) = D := ⟨_, rfl⟩
      have hDs : D.size = (linesT (s.data.toList.take k)).length := by rw [← hD, bs_size]
      have hk1 : IntKind.i64.wrap ((k : Int) + 1) = ((k + 1 : Nat) : Int) := by rw [IntKind.wrap_i64]; omega
      by_cases h47 : x = 47
      · subst h47
        have s1 : ¬ 9223372036854775807 < D.size + 2 := by omega
        have s2 : ¬ 9223372036854775805 < D.size := by omega
        have hE : D ++ ⟨#[13, 10]⟩ = bs (linesT (s.data.toList.take (k + 1))) := by
          rw [htk, if_pos rfl, ← bs_app, hD]; rfl
        have HE := Lib.hid hE
        rw [hD]
        clear hE htk hD hDs hlen hxx hll
        go_wp2_with fail
        go_roundw
        case rel => exact ⟨k + 1, by rw [HE.out], by go_num, by omega, trivial⟩
        case measure => simp [intOf]; omega
      · have hex : s.extract k (k + 1) = bs [x] := by
          apply ba_ext
          have h := extS10 s k k (Nat.le_refl _) hlt
          rw [h, hx]
          have h0 := extL10 s k k (Nat.le_refl _) (by omega)
          rw [h0]
          simp [bs]
        have hne : ((x.toNat : Int) == 47) = false := by
          rw [beq_eq_false_iff_ne]; intro h
          exact h47 ((u8_is x 47 (by omega)).1 h)
        have s1 : ¬ 9223372036854775807 < D.size + 1 := by omega
        have s2 : ¬ 9223372036854775806 < D.size := by omega
        have z1 : (bs [x]).size = 1 := rfl
        have s3 : ¬ 9223372036854775807 < D.size + (bs [x]).size := by omega
        have hE : D ++ bs [x] = bs (linesT (s.data.toList.take (k + 1))) := by
          rw [htk, if_neg h47, ← bs_app, hD]
        have HE := Lib.hid hE
        have i0 : (0 : Int) ≤ (k : Int) := by omega
        rw [hD]
        clear hE htk hD hDs hlen hxx hll
        go_wp2_with fail
        go_roundw
        case rel => exact ⟨k + 1, by rw [← HE.out], by go_num, by omega, trivial⟩
        case measure => simp [intOf]; omega
    · obtain rfl : k = s.size := by omega
      have e1 : s.data.toList.take s.size = s.data.toList := List.take_of_length_le (by rw [size_l]; omega)
      rw [e1]
      clear e1
      go_wp2_with fail
      go_ret
      exact ⟨rfl, rfl⟩
set_option maxHeartbeats 4000000 in
theorem decodes_hit (S B : ByteArray) (u st : Int) (u0 st0 : Nat) (hs : S.size ≤ 1000) (h : (decodeT (linesT S.data.toList)) = (B.data.toList, u0, st0)) (hu : (u0 : Int) = u) (hst : (st0 : Int) = st) (w : World) (hw : Held10 w) :
    Calls Tryz.prog 17 #[.string S, .string B, .int .i64 u, .int .i64 st] w fun e w' => e = .returned (.bool true) ∧ Below w.heap.size w w' := by
  have hl := linesT_len S.data.toList
  rw [size_l] at hl
  have cD := pDecode (bs (linesT S.data.toList)) (by rw [bs_size]; omega) w hw.2
  rw [show (bs (linesT S.data.toList)).data.toList = linesT S.data.toList from rfl, h] at cD
  simp only [bs_of, hu, hst] at cD
  have CD := Lib.hid cD
  have CL := Lib.hid (lines10 S hs w)
  have hq : (B.toList == B.toList) = true := beq_self_eq_true _
  generalize bs (linesT S.data.toList) = L at *
  clear cD hl h hu hst hs
  go_enter Tryz.func17, Tryz.ntmps17
  go_wp2_with fail
  (with_reducible refine (CL.out).mono ?_); rintro e w' ⟨rfl, rfl⟩
  go_wp2_with fail
  (with_reducible refine (CD.out).mono ?_); rintro e w2 ⟨rfl, g2⟩
  go_wp2_with fail
  go_ret
  exact ⟨by simp, g2⟩
set_option maxHeartbeats 4000000 in
theorem encodes_hit (B S : ByteArray) (A : Option Addr) (n c : Nat) (zs : List Int) (hs : S.size ≤ 1000) (hb : B.size ≤ 1000) (hn : n ≤ 1000) (h : encOut B.data.toList zs = (linesT S.data.toList, 0)) (w : World) (hr : Reads w w.heap.size 1 A n (zs.map (Value.int .i64))) (hw : Held10 w) :
    Calls Tryz.prog 18 #[.string B, .string S, .slice A n c] w fun e w' => e = .returned (.bool true) ∧ Below w.heap.size w w' := by
  have cE := pEncode B.data.toList A n c zs w hr (by omega) (by rw [size_l]; omega) hw.1
  rw [h, bs_of] at cE
  simp only at cE
  have cE : Calls Tryz.prog 12 #[.string B, .slice A n c] w fun e w' => e = .returned (.tuple #[.string (bs (linesT S.data.toList)), .int .i64 0]) ∧ Below w.heap.size w w' := cE
  have CE := Lib.hid cE
  have CL := Lib.hid (fun w => lines10 S hs w)
  generalize bs (linesT S.data.toList) = L at *
  have hq : (L.toList == L.toList) = true := beq_self_eq_true _
  clear cE h hr hw hs hb hn
  go_enter Tryz.func18, Tryz.ntmps18
  go_wp2_with fail
  (with_reducible refine (CE.out).mono ?_); rintro e w2 ⟨rfl, g2⟩
  go_wp2_with fail
  (with_reducible refine (CL.out _).mono ?_); rintro e w' ⟨rfl, rfl⟩
  go_wp2_with fail
  go_ret
  exact ⟨by simp, g2⟩
theorem fed10 (w : World) (hw : Held10 w) : Calls Tryz.prog 21 #[.agg #[.int .i64 0, .int .i64 0, .int .i64 0, .int .i64 0, .string ⟨#[]⟩, .string ⟨#[]⟩, .int .i64 0, .int .i64 0], .string ⟨#[53, 13, 10, 97, 98]⟩] w fun e w' => e = .returned (.tuple #[.agg #[.int .i64 2, .int .i64 0, .int .i64 0, .int .i64 3, .string ⟨#[97, 98]⟩, .string ⟨#[]⟩, .int .i64 0, .int .i64 0], .int .i64 5, .int .i64 0]) ∧ Below w.heap.size w w' := by
  have c := pFeedC okC_new cleanCA_nil ⟨#[53, 13, 10, 97, 98]⟩ (by decide) w hw.2
  rw [show ((⟨#[53, 13, 10, 97, 98]⟩ : ByteArray).data.toList) = linesT [53, 47, 97, 98] from rfl, chF] at c
  exact c
theorem rest10 (w : World) : Calls Tryz.prog 15 #[.agg #[.int .i64 2, .int .i64 0, .int .i64 0, .int .i64 3, .string ⟨#[97, 98]⟩, .string ⟨#[]⟩, .int .i64 0, .int .i64 0]] w fun e w' => e = .returned (.tuple #[.int .i64 2043, .int .i64 0]) ∧ Below w.heap.size w w' := by
  have hok := feed_ok (linesT [53, 47, 97, 98]) okC_new
  rw [chF] at hok
  exact pRest hok cleanCA_nil w
theorem reads_z (w : World) (t : TypeId) (zs : List Int) (cs : Array Value) (h : cs.toList = zs.map (Value.int .i64)) : Reads (w.alloc (.cells cs t)) (w.alloc (.cells cs t)).heap.size 1 (some ⟨w.heap.size, 0, none⟩) zs.length (zs.map (Value.int .i64)) := by
  refine ⟨by simp, fun _ => ⟨_, rfl, by simp, fun j u hu => ?_⟩⟩
  rw [Addr.add_lit, Nat.zero_add, (Blk.new w t cs).cell j]
  rw [← h] at hu
  simpa using hu
set_option maxRecDepth 100000 in
set_option maxHeartbeats 8000000 in
theorem awake10 (w : World) (hw : Held10 w) : Calls Tryz.prog 8 #[] w fun e w' => e = .returned (.bool true) ∧ Below w.heap.size w w' := by
  have TB := Lib.hid (fun X (h : Below w.heap.size w X) => hw.below h)
  have HW := Lib.hid hw
  have CN := Lib.hid (fun w => pNew w)
  have CL : Hid (∀ w, Calls Tryz.prog 24 #[.string ⟨#[53, 47, 97, 98]⟩] w fun e w' => e = .returned (.string ⟨#[53, 13, 10, 97, 98]⟩) ∧ w' = w) := Lib.hid (fun w => lines10 ⟨#[53, 47, 97, 98]⟩ (by decide) w)
  rw [show ckV newC = #[.int .i64 0, .int .i64 0, .int .i64 0, .int .i64 0, .string ⟨#[]⟩, .string ⟨#[]⟩, .int .i64 0, .int .i64 0] from rfl] at CN
  clear hw
  go_enter Tryz.func8, Tryz.ntmps8
  go_wp2_with fail
  (with_reducible refine (CN.out _).mono ?_); rintro e w1 ⟨rfl, g1⟩
  have T1 := TB.out _ g1
  have HT1 := Lib.hid T1
  clear T1
  go_wp2_with fail
  (with_reducible refine (CL.out _).mono ?_); rintro e w' ⟨rfl, rfl⟩
  go_wp2_with fail
  (with_reducible refine (fed10 _ HT1.out).mono ?_); rintro e w2 ⟨rfl, g2⟩
  have h2 := g1.trans (g2.mono g1.size)
  have H2 := Lib.hid h2
  have g3 : Below w2.heap.size w2 (w2.alloc (.cells #[.int .i64 2, .int .i64 0, .int .i64 0, .int .i64 3, .string ⟨#[97, 98]⟩, .string ⟨#[]⟩, .int .i64 0, .int .i64 0] 36)) := (Below.refl _ _).alloc (Nat.le_refl _) _
  have HB := Lib.hid (Blk.new w2 36 #[.int .i64 2, .int .i64 0, .int .i64 0, .int .i64 3, .string ⟨#[97, 98]⟩, .string ⟨#[]⟩, .int .i64 0, .int .i64 0])
  have h3 := h2.trans (g3.mono h2.size)
  have H3 := Lib.hid h3
  clear g1 g2 h2 g3 h3 HT1
  go_wp2_with fail
  (with_reducible refine (rest10 _).mono ?_); rintro e w4 ⟨rfl, g4⟩
  have h4 := H3.out.trans (g4.mono H3.out.size)
  have HB := Lib.hid (HB.out.below g4 HB.out.lt)
  have HT4 := Lib.hid (TB.out _ h4)
  have H4 := Lib.hid h4
  clear g4 h4
  go_wp2_with fail
  (with_reducible refine (decodes_hit ⟨#[51, 47, 97, 98, 99, 47, 48, 47, 47]⟩ ⟨#[97, 98, 99]⟩ 13 200 13 200 (by decide) chD0 rfl rfl _ HT4.out).mono ?_); rintro e w5 ⟨rfl, g⟩
  have h5 := H4.out.trans (g.mono H4.out.size)
  have HB := Lib.hid (HB.out.below g HB.out.lt)
  have HT5 := Lib.hid (TB.out _ h5)
  have H5 := Lib.hid h5
  clear g h5
  go_wp2_with fail
  (with_reducible refine (decodes_hit ⟨#[51, 59, 120]⟩ ⟨#[]⟩ 2 400 2 400 (by decide) chD1 rfl rfl _ HT5.out).mono ?_); rintro e w6 ⟨rfl, g⟩
  have h6 := H5.out.trans (g.mono H5.out.size)
  have HB := Lib.hid (HB.out.below g HB.out.lt)
  have HT6 := Lib.hid (TB.out _ h6)
  have H6 := Lib.hid h6
  clear g h6
  have HS := Lib.hid (reads_z w6 3 [2] #[.int .i64 2] rfl)
  have g := (Below.refl w6.heap.size w6).alloc (Nat.le_refl _) (.cells #[.int .i64 2] 3)
  have h7 := H6.out.trans (g.mono H6.out.size)
  have HB := Lib.hid (HB.out.below g HB.out.lt)
  have HT7 := Lib.hid (TB.out _ h7)
  have H7 := Lib.hid h7
  clear g h7
  go_wp2_with fail
  (with_reducible refine (encodes_hit ⟨#[97, 98, 99, 100, 101]⟩ ⟨#[50, 47, 97, 98, 47, 51, 47, 99, 100, 101, 47, 48, 47, 47]⟩ _ 1 1 [2] (by decide) (by decide) (by omega) (by unfold encOut; rw [if_neg (by decide), if_pos (by decide)]; rw [show ([2] : List Int).map Int.toNat = [2] from rfl]; exact congrArg (·, 0) chE0) _ HS.out HT7.out).mono ?_); rintro e w8 ⟨rfl, g⟩
  have h8 := H7.out.trans (g.mono H7.out.size)
  have HB := HB.out.below g HB.out.lt
  have y0 : w8.cell? ⟨w2.heap.size, 0, none⟩ = some (.int .i64 2) := HB.cell 0
  have y1 : w8.cell? ⟨w2.heap.size, 1, none⟩ = some (.int .i64 0) := HB.cell 1
  have y2 : w8.cell? ⟨w2.heap.size, 2, none⟩ = some (.int .i64 0) := HB.cell 2
  have y3 : w8.cell? ⟨w2.heap.size, 3, none⟩ = some (.int .i64 3) := HB.cell 3
  have y4 : w8.cell? ⟨w2.heap.size, 4, none⟩ = some (.string ⟨#[97, 98]⟩) := HB.cell 4
  have y5 : w8.cell? ⟨w2.heap.size, 5, none⟩ = some (.string ⟨#[]⟩) := HB.cell 5
  have y6 : w8.cell? ⟨w2.heap.size, 6, none⟩ = some (.int .i64 0) := HB.cell 6
  have y7 : w8.cell? ⟨w2.heap.size, 7, none⟩ = some (.int .i64 0) := HB.cell 7
  have H8 := Lib.hid h8
  clear g h8 HB
  go_wp2_with fail
  go_ret
  exact ⟨rfl, H8.out⟩
end Go.Proofs.YtkbihipgnlglbaaGreatDoor
