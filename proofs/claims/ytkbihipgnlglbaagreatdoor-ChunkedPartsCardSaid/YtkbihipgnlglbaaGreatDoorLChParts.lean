/-
  ChunkedParts, the law.
-/
import Derived.Test.YtkbihipgnlglbaaGreatDoorOvM
import Derived.Test.YtkbihipgnlglbaaGreatDoorMa
import Derived.Test.YtkbihipgnlglbaaGreatDoorLChKnown
import Derived.Deep.RegionHeld3
import Derived.Laws.StructEq
namespace Go.Proofs.YtkbihipgnlglbaaGreatDoor
open Go.RowKit

/-- feeding a string in three parts -/
structure Fed3 (L : List UInt8) (x y : Nat) (W A B : Ck) (i j k n : Nat) : Prop where
  a : feedC newC (L.take x) = (A, i)
  b : feedC A ((L.take y).drop x) = (B, j)
  c : feedC B (L.drop y) = (W, k)
  w : feedC newC L = (W, n)
  n : i + j + k = n
  okA : OkC A
  okB : OkC B
  okW : OkC W
  len : i ≤ L.length ∧ j ≤ L.length ∧ k ≤ L.length
  body : ∃ t, B.body = A.body ++ t
  rest : restC B ≤ restC A
  over : overC A = true → B = A ∧ j = 0
theorem fed3 (L : List UInt8) (x y : Nat) (h : x ≤ y) : ∃ W A B i j k n, Fed3 L x y W A B i j k n := by
  have e1 : L.take y = L.take x ++ (L.take y).drop x := by
    have := List.take_append_drop x (L.take y)
    rw [List.take_take, Nat.min_eq_left h] at this
    exact this.symm
  have e2 : L = L.take x ++ ((L.take y).drop x ++ L.drop y) := by
    rw [← List.append_assoc, ← e1, List.take_append_drop]
  have okA := feed_ok (L.take x) okC_new
  have okB := feed_ok ((L.take y).drop x) okA
  have okW := feed_ok (L.drop y) okB
  have f1 := feed_app (L.take x) ((L.take y).drop x ++ L.drop y) newC
  rw [← e2, feed_app] at f1
  have l1 := feed_len (L.take x) newC
  have l2 := feed_len ((L.take y).drop x) (feedC newC (L.take x)).1
  have l3 := feed_len (L.drop y) (feedC (feedC newC (L.take x)).1 ((L.take y).drop x)).1
  simp only [List.length_take, List.length_drop] at l1 l2 l3
  refine ⟨_, _, _, _, _, _, _, rfl, rfl, rfl, f1, ?_, okA, okB, okW, by omega, feed_body _ _, feed_rest _ okA, fun ho => ?_⟩
  · simp only; omega
  · rw [feed_over ho]; exact ⟨rfl, rfl⟩

/-- what a piece of code leaves where it goes on -/
def onNormalK (R : Act → World → Prop) : Exit → Act → World → Prop
  | .normal, a, w => R a w
  | _, _, _ => False
theorem wp_normalK {P : Program} {c : Code} {Q : Exit → Act → World → Prop} {a : Act} {w : World} {R : Act → World → Prop} (h : c.wp P (onNormalK R) a w) (k : ∀ a' w', R a' w' → Q .normal a' w') : c.wp P Q a w :=
  Code.wp_mono (fun e a' w' h => by cases e <;> first | exact k _ _ h | exact h.elim) h
theorem intro_v {R' : (Nat → Value) → Act → World → Prop} {a : Act} {w : World} (h : R' (fun k => a.tmps.getD k undef) a w) : ∃ v, R' v a w := ⟨_, h⟩
theorem blk_store8 {w : World} {g : Nat} {T : TypeId} {z0 z1 z2 z3 z4 z5 z6 z7 : Value} (h : Blk w g T #[z0, z1, z2, z3, z4, z5, z6, z7]) (v0 v1 v2 v3 v4 v5 v6 v7 : Value) :
    Blk ((((((((w.setCell ⟨g, 0, none⟩ v0).setCell ⟨g, 1, none⟩ v1).setCell ⟨g, 2, none⟩ v2).setCell ⟨g, 3, none⟩ v3).setCell ⟨g, 4, none⟩ v4).setCell ⟨g, 5, none⟩ v5).setCell ⟨g, 6, none⟩ v6).setCell ⟨g, 7, none⟩ v7) g T #[v0, v1, v2, v3, v4, v5, v6, v7] := by
  have b := (((((((h.set_ 0 v0).set_ 1 v1).set_ 2 v2).set_ 3 v3).set_ 4 v4).set_ 5 v5).set_ 6 v6).set_ 7 v7
  have e : ((((((((#[z0, z1, z2, z3, z4, z5, z6, z7] : Array Value).setIfInBounds 0 v0).setIfInBounds 1 v1).setIfInBounds 2 v2).setIfInBounds 3 v3).setIfInBounds 4 v4).setIfInBounds 5 v5).setIfInBounds 6 v6).setIfInBounds 7 v7 = #[v0, v1, v2, v3, v4, v5, v6, v7] := by simp
  rw [e] at b
  exact b
theorem below_store8 {B : Nat} {a w : World} {g : Nat} {v0 v1 v2 v3 v4 v5 v6 v7 : Value} (h : Below B a w) (hg : B ≤ g) :
    Below B a ((((((((w.setCell ⟨g, 0, none⟩ v0).setCell ⟨g, 1, none⟩ v1).setCell ⟨g, 2, none⟩ v2).setCell ⟨g, 3, none⟩ v3).setCell ⟨g, 4, none⟩ v4).setCell ⟨g, 5, none⟩ v5).setCell ⟨g, 6, none⟩ v6).setCell ⟨g, 7, none⟩ v7) :=
  (((((((h.setCell hg _).setCell hg _).setCell hg _).setCell hg _).setCell hg _).setCell hg _).setCell hg _).setCell hg _
theorem feedAny {c c2 : Ck} {n : Nat} (hc : OkC c) (s : ByteArray) (hs : s.size ≤ 1000000000) (h : feedC c s.data.toList = (c2, n)) (w : World) (hE : Held10 w) : Calls Tryz.prog 21 #[.agg (ckV c), .string s] w fun e w' => e = .returned (.tuple #[.agg (ckV c2), .int .i64 n, .int .i64 0]) ∧ Below w.heap.size w w' := by
  have c := pFeedC hc (cleanCA_ok hc) s hs w hE.2
  rw [h] at c
  exact c
set_option maxRecDepth 100000 in
set_option maxHeartbeats 32000000 in
theorem ChunkedParts_true (s : ByteArray) (x y : Int) (w : World) (hs : s.size ≤ 9223372036854775807) (hx1 : -9223372036854775808 ≤ x) (hx2 : x ≤ 9223372036854775807) (hy1 : -9223372036854775808 ≤ y) (hy2 : y ≤ 9223372036854775807) (hw : Held10 w) :
    Calls Tryz.prog 7 #[.string s, .int .i64 x, .int .i64 y] w fun e w' => e = .returned (.bool true) ∧ Below w.heap.size w w' := by
  have TB := Lib.hid (fun X (h : Below w.heap.size w X) => hw.below h)
  have CK := Lib.hid (ChunkedKnown_true w hw)
  by_cases h4 : 400 < s.size
  · have e1 : decide ((400 : Int) < (s.size : Int)) = true := by simp; omega
    clear hw
    go_enter Tryz.func7, Tryz.ntmps7
    go_wp2_with fail
    (with_reducible refine (CK.out).mono ?_); rintro e w1 ⟨rfl, g⟩
    go_wp2_with fail
    go_ret
    exact ⟨rfl, g⟩
  have e1 : decide ((400 : Int) < (s.size : Int)) = false := by simp; omega
  have M1 := Lib.hid (fun w => Mod_I x ((s.size : Int) + 1) w hx1 hx2 (by omega) (by omega))
  have r1 := modI_lt (show (1 : Int) ≤ (s.size : Int) + 1 by omega) x
  generalize modI x ((s.size : Int) + 1) = xi at *
  obtain ⟨xn, rfl⟩ := Int.eq_ofNat_of_zero_le r1.1
  have M2 := Lib.hid (fun w => Mod_I y ((s.size : Int) - (xn : Int) + 1) w hy1 hy2 (by omega) (by omega))
  have r2 := modI_lt (show (1 : Int) ≤ (s.size : Int) - (xn : Int) + 1 by omega) y
  generalize modI y ((s.size : Int) - (xn : Int) + 1) = yi at *
  obtain ⟨yd, rfl⟩ := Int.eq_ofNat_of_zero_le r2.1
  obtain ⟨yn, hyn⟩ : ∃ yn, xn + yd = yn := ⟨_, rfl⟩
  have hxy : xn ≤ yn := by omega
  have hys : yn ≤ s.size := by omega
  have hw1 : IntKind.i64.wrap ((xn : Int) + (yd : Int)) = (yn : Int) := by rw [IntKind.wrap_i64]; omega
  have hw2 : (xn : Int) + (yd : Int) = (yn : Int) := by omega
  obtain ⟨W, A, B, i, j, k, n, F⟩ := fed3 s.data.toList xn yn hxy
  obtain ⟨fa, fb, fc, fw, fn, okA, okB, okW, fl, fbd, frest, fover⟩ := F
  have hlen : s.data.toList.length = s.size := size_l s
  have hsl1 : (s.extract 0 xn).data.toList = s.data.toList.take xn := by rw [extL10 s 0 xn (by omega) (by omega), List.drop_zero]
  have hsl2 : (s.extract xn yn).data.toList = (s.data.toList.take yn).drop xn := extL10 s xn yn hxy hys
  have hsl3 : (s.extract yn s.size).data.toList = s.data.toList.drop yn := by rw [extL10 s yn s.size hys (by omega), List.take_of_length_le (by omega)]
  have sz1 : (s.extract 0 xn).size ≤ 1000000000 := by have := congrArg List.length hsl1; rw [size_l, List.length_take] at this; omega
  have sz2 : (s.extract xn yn).size ≤ 1000000000 := by have := congrArg List.length hsl2; rw [size_l, List.length_drop, List.length_take] at this; omega
  have sz3 : (s.extract yn s.size).size ≤ 1000000000 := by have := congrArg List.length hsl3; rw [size_l, List.length_drop] at this; omega
  have CW := Lib.hid (fun X (h : Below w.heap.size w X) => feedAny okC_new s (by omega) fw X (hw.below h))
  have CA := Lib.hid (fun X (h : Below w.heap.size w X) => feedAny (c2 := A) (n := i) okC_new (s.extract 0 xn) sz1 (by rw [hsl1]; exact fa) X (hw.below h))
  have CB := Lib.hid (fun X (h : Below w.heap.size w X) => feedAny (c2 := B) (n := j) okA (s.extract xn yn) sz2 (by rw [hsl2]; exact fb) X (hw.below h))
  have CC := Lib.hid (fun X (h : Below w.heap.size w X) => feedAny (c2 := W) (n := k) okB (s.extract yn s.size) sz3 (by rw [hsl3]; exact fc) X (hw.below h))
  have KA := Lib.hid (fun w => pCheck okA (cleanCA_ok okA) w)
  have KB := Lib.hid (fun w => pCheck okB (cleanCA_ok okB) w)
  have KW := Lib.hid (fun w => pCheck okW (cleanCA_ok okW) w)
  have RA := Lib.hid (fun w => pRest okA (cleanCA_ok okA) w)
  have RB := Lib.hid (fun w => pRest okB (cleanCA_ok okB) w)
  have OA := Lib.hid (fun w => pOver okA w)
  have CN := Lib.hid (fun w => pNew w)
  rw [show ckV newC = #[.int .i64 0, .int .i64 0, .int .i64 0, .int .i64 0, .string ⟨#[]⟩, .string ⟨#[]⟩, .int .i64 0, .int .i64 0] from rfl] at CN CW CA
  obtain ⟨sa, hsa⟩ : ∃ sa, s.extract 0 xn = sa := ⟨_, rfl⟩
  obtain ⟨sb, hsb⟩ : ∃ sb, s.extract xn yn = sb := ⟨_, rfl⟩
  obtain ⟨sc, hsc⟩ : ∃ sc, s.extract yn s.size = sc := ⟨_, rfl⟩
  rw [hsa] at CA
  rw [hsb] at CB
  rw [hsc] at CC
  have hbA := okA.body
  have hbB := okB.body
  have hs400 : (s.size : Int) ≤ 400 := by omega
  have hs0 : (0 : Int) ≤ (s.size : Int) := by omega
  have i0 : (0 : Int) ≤ (xn : Int) := by omega
  have i1 : (xn : Int) ≤ (s.size : Int) := by omega
  have i2 : (0 : Int) ≤ (yn : Int) := by omega
  have i3 : (yn : Int) ≤ (s.size : Int) := by omega
  have i4 : (xn : Int) ≤ (yn : Int) := by omega
  obtain ⟨tb, htb⟩ := fbd
  have fO : Hid (overC A = true → (B.st : Int) = (A.st : Int) ∧ (B.size : Int) = (A.size : Int) ∧ (B.digits : Int) = (A.digits : Int) ∧ (B.left : Int) = (A.left : Int) ∧ bs B.body = bs A.body ∧ bs B.line = bs A.line ∧ (B.lines : Int) = (A.lines : Int) ∧ (B.status : Int) = (A.status : Int) ∧ (j : Int) = 0) := Lib.hid (fun h => by obtain ⟨e1, e2⟩ := fover h; rw [e1, e2]; exact ⟨rfl, rfl, rfl, rfl, rfl, rfl, rfl, rfl, rfl⟩)
  have q1 : Hid (decide (((bs B.body).size : Int) < ((bs A.body).size : Int)) = false) := Lib.hid (by rw [bs_size, bs_size, htb, List.length_append]; simp; omega)
  have q2 : Hid (decide ((2048 : Int) < ((bs B.body).size : Int)) = false) := Lib.hid (by rw [bs_size]; simp; omega)
  have q3 : Hid ((bs B.body).extract 0 (bs A.body).size = bs A.body) := Lib.hid (by rw [bs_take, bs_size, htb, List.take_left])
  have q4 : Hid (decide (((restC A : Nat) : Int) < ((restC B : Nat) : Int)) = false) := Lib.hid (by simp; omega)
  have q5 : Hid (((i : Int) + (j : Int) + (k : Int)) = (n : Int)) := Lib.hid (by omega)
  have q6 : Hid ((0 ≤ (i : Int) ∧ 0 ≤ (j : Int) ∧ 0 ≤ (k : Int)) ∧ (i : Int) ≤ 400 ∧ (j : Int) ≤ 400 ∧ (k : Int) ≤ 400) := Lib.hid (by omega)
  have q7 : Hid (((bs A.body).size : Int) ≤ ((bs B.body).size : Int)) := Lib.hid (by rw [bs_size, bs_size, htb, List.length_append]; omega)
  generalize overC A = ov at *
  generalize restC A = rA at *
  generalize restC B = rB at *
  unfold ckV ckA at CW CA CB CC KA KB KW RA RB OA
  clear htb
  clear fa fb fc fw fn okA okB okW fl frest fover hbA hbB hsl1 hsl2 hsl3 sz1 sz2 sz3 hlen hw r1 r2 h4 hs hx1 hx2 hy1 hy2 hyn hxy hys
  generalize (W.st : Int) = p0 at *
  generalize (W.size : Int) = p1 at *
  generalize (W.digits : Int) = p2 at *
  generalize (W.left : Int) = p3 at *
  generalize bs W.body = p4 at *
  generalize bs W.line = p5 at *
  generalize (W.lines : Int) = p6 at *
  generalize (W.status : Int) = p7 at *
  generalize (A.st : Int) = a0 at *
  generalize (A.size : Int) = a1 at *
  generalize (A.digits : Int) = a2 at *
  generalize (A.left : Int) = a3 at *
  generalize bs A.body = a4 at *
  generalize bs A.line = a5 at *
  generalize (A.lines : Int) = a6 at *
  generalize (A.status : Int) = a7 at *
  generalize (B.st : Int) = b0 at *
  generalize (B.size : Int) = b1 at *
  generalize (B.digits : Int) = b2 at *
  generalize (B.left : Int) = b3 at *
  generalize bs B.body = b4 at *
  generalize bs B.line = b5 at *
  generalize (B.lines : Int) = b6 at *
  generalize (B.status : Int) = b7 at *
  generalize (n : Int) = N at *
  generalize (i : Int) = I at *
  generalize (j : Int) = J at *
  generalize (k : Int) = KK at *
  go_enter Tryz.func7, Tryz.ntmps7
  go_wp2_with fail
  (with_reducible refine (CK.out).mono ?_); rintro e w1 ⟨rfl, g⟩
  have h1 := g
  clear g CK
  go_wp2_with fail
  (with_reducible refine (M1.out _).mono ?_); rintro e w' ⟨rfl, rfl⟩
  rename World => w1
  go_wp2_with fail
  (with_reducible refine (M2.out _).mono ?_); rintro e w' ⟨rfl, rfl⟩
  rename World => w1
  clear M1 M2
  go_wp2_with fail
  (with_reducible refine (CN.out _).mono ?_); rintro e w2 ⟨rfl, g⟩
  have h2 := h1.trans (g.mono h1.size)
  clear g h1
  go_wp2_with fail
  (with_reducible refine (CW.out _ h2).mono ?_); rintro e w3 ⟨rfl, g⟩
  have h3 := h2.trans (g.mono h2.size)
  clear g h2
  have h4 := h3.alloc h3.size (.cells #[.int .i64 p0, .int .i64 p1, .int .i64 p2, .int .i64 p3, .string p4, .string p5, .int .i64 p6, .int .i64 p7] 36)
  have BW := Lib.hid (Blk.new w3 36 #[.int .i64 p0, .int .i64 p1, .int .i64 p2, .int .i64 p3, .string p4, .string p5, .int .i64 p6, .int .i64 p7])
  go_wp2_with fail
  generalize hgw : w3.alloc (.cells #[.int .i64 p0, .int .i64 p1, .int .i64 p2, .int .i64 p3, .string p4, .string p5, .int .i64 p6, .int .i64 p7] 36) = w4 at *
  clear hgw h3

  have hd0 : Hid (Below w4.heap.size w4 w4.drew) := hide (Below.refl _ _).drew
  have hdA : Hid (Below w4.heap.size w4 (w4.alloc (.cells #[.int .i64 0, .int .i64 0, .int .i64 0, .int .i64 0, .string ⟨#[]⟩, .string ⟨#[]⟩, .int .i64 0, .int .i64 0] 36)).drew) := hide ((Below.refl _ _).alloc (Nat.le_refl _) _).drew
  have hbA : Hid (Blk (w4.alloc (.cells #[.int .i64 0, .int .i64 0, .int .i64 0, .int .i64 0, .string ⟨#[]⟩, .string ⟨#[]⟩, .int .i64 0, .int .i64 0] 36)).drew w4.heap.size 36 #[.int .i64 0, .int .i64 0, .int .i64 0, .int .i64 0, .string ⟨#[]⟩, .string ⟨#[]⟩, .int .i64 0, .int .i64 0]) := hide (Blk.new w4 36 #[.int .i64 0, .int .i64 0, .int .i64 0, .int .i64 0, .string ⟨#[]⟩, .string ⟨#[]⟩, .int .i64 0, .int .i64 0]).drew
  have kN : ∀ X : World, Hid (Below w4.heap.size w4 X) → Calls Tryz.prog 16 #[] X fun e w' => e = .returned (.agg #[.int .i64 0, .int .i64 0, .int .i64 0, .int .i64 0, .string ⟨#[]⟩, .string ⟨#[]⟩, .int .i64 0, .int .i64 0]) ∧ Hid (Below w4.heap.size w4 w') := fun X hX => (CN.out X).mono fun e w' ⟨he, g⟩ => ⟨he, hide (hX.out.trans (g.mono hX.out.size))⟩
  have kNB : ∀ (X : World) (p : Nat), Hid (Below w4.heap.size w4 X) → Hid (Blk X p 36 #[.int .i64 0, .int .i64 0, .int .i64 0, .int .i64 0, .string ⟨#[]⟩, .string ⟨#[]⟩, .int .i64 0, .int .i64 0]) → Calls Tryz.prog 16 #[] X fun e w' => e = .returned (.agg #[.int .i64 0, .int .i64 0, .int .i64 0, .int .i64 0, .string ⟨#[]⟩, .string ⟨#[]⟩, .int .i64 0, .int .i64 0]) ∧ Hid (Below w4.heap.size w4 w') ∧ Hid (Blk w' p 36 #[.int .i64 0, .int .i64 0, .int .i64 0, .int .i64 0, .string ⟨#[]⟩, .string ⟨#[]⟩, .int .i64 0, .int .i64 0]) := fun X p hX hB => (CN.out X).mono fun e w' ⟨he, g⟩ => ⟨he, hide (hX.out.trans (g.mono hX.out.size)), hide (hB.out.below g hB.out.lt)⟩
  have KN := Lib.hid kN
  have KNB := Lib.hid kNB
  have kF : ∀ X : World, Hid (Below w4.heap.size w4 X) → Calls Tryz.prog 21 #[.agg #[.int .i64 0, .int .i64 0, .int .i64 0, .int .i64 0, .string ⟨#[]⟩, .string ⟨#[]⟩, .int .i64 0, .int .i64 0], .string sa] X fun e w' => e = .returned (.tuple #[.agg #[.int .i64 a0, .int .i64 a1, .int .i64 a2, .int .i64 a3, .string a4, .string a5, .int .i64 a6, .int .i64 a7], .int .i64 I, .int .i64 0]) ∧ Hid (Below w4.heap.size w4 w') := fun X hX => (CA.out X (h4.trans (hX.out.mono h4.size))).mono fun e w' ⟨he, g⟩ => ⟨he, hide (hX.out.trans (g.mono hX.out.size))⟩
  have kFB : ∀ (X : World) (p : Nat), Hid (Below w4.heap.size w4 X) → Hid (Blk X p 36 #[.int .i64 0, .int .i64 0, .int .i64 0, .int .i64 0, .string ⟨#[]⟩, .string ⟨#[]⟩, .int .i64 0, .int .i64 0]) → Calls Tryz.prog 21 #[.agg #[.int .i64 0, .int .i64 0, .int .i64 0, .int .i64 0, .string ⟨#[]⟩, .string ⟨#[]⟩, .int .i64 0, .int .i64 0], .string sa] X fun e w' => e = .returned (.tuple #[.agg #[.int .i64 a0, .int .i64 a1, .int .i64 a2, .int .i64 a3, .string a4, .string a5, .int .i64 a6, .int .i64 a7], .int .i64 I, .int .i64 0]) ∧ Hid (Below w4.heap.size w4 w') ∧ Hid (Blk w' p 36 #[.int .i64 0, .int .i64 0, .int .i64 0, .int .i64 0, .string ⟨#[]⟩, .string ⟨#[]⟩, .int .i64 0, .int .i64 0]) ∧ w'.cell? ⟨p, 0, none⟩ = some (.int .i64 0) ∧ w'.cell? ⟨p, 1, none⟩ = some (.int .i64 0) ∧ w'.cell? ⟨p, 2, none⟩ = some (.int .i64 0) ∧ w'.cell? ⟨p, 3, none⟩ = some (.int .i64 0) ∧ w'.cell? ⟨p, 4, none⟩ = some (.string ⟨#[]⟩) ∧ w'.cell? ⟨p, 5, none⟩ = some (.string ⟨#[]⟩) ∧ w'.cell? ⟨p, 6, none⟩ = some (.int .i64 0) ∧ w'.cell? ⟨p, 7, none⟩ = some (.int .i64 0) ∧ w'.frozen? ⟨p, 0, none⟩ = false ∧ w'.frozen? ⟨p, 1, none⟩ = false ∧ w'.frozen? ⟨p, 2, none⟩ = false ∧ w'.frozen? ⟨p, 3, none⟩ = false ∧ w'.frozen? ⟨p, 4, none⟩ = false ∧ w'.frozen? ⟨p, 5, none⟩ = false ∧ w'.frozen? ⟨p, 6, none⟩ = false ∧ w'.frozen? ⟨p, 7, none⟩ = false := fun X p hX hB => (CA.out X (h4.trans (hX.out.mono h4.size))).mono fun e w' ⟨he, g⟩ => by
    have hb := hB.out.below g hB.out.lt
    exact ⟨he, hide (hX.out.trans (g.mono hX.out.size)), hide hb, hb.cell 0, hb.cell 1, hb.cell 2, hb.cell 3, hb.cell 4, hb.cell 5, hb.cell 6, hb.cell 7, hb.frozen 0, hb.frozen 1, hb.frozen 2, hb.frozen 3, hb.frozen 4, hb.frozen 5, hb.frozen 6, hb.frozen 7⟩
  have KF := Lib.hid kF
  have KFB := Lib.hid kFB
  clear kF kFB kN kNB
  refine wp_normalK (R := fun a' w' => ∃ (v : Nat → Value) (p11 : Nat), a' = ({ tmps := #[.string s, .int .i64 (xn : Int), .int .i64 (yn : Int), undef, undef, undef, .bool false, .bool true, .pointer (some ⟨w3.heap.size, 0, none⟩), .int .i64 N, .int .i64 0, .pointer (some ⟨p11, 0, none⟩), .int .i64 I, .int .i64 0, undef, undef, undef, undef, undef, undef, undef, undef, undef, undef, undef, undef, v 26, v 27, v 28, v 29, v 30, v 31, v 32, v 33, v 34, v 35, v 36, v 37, v 38, v 39, v 40, v 41, v 42, v 43, v 44, v 45, v 46, v 47, v 48, v 49, v 50, v 51, v 52, v 53, v 54, v 55, v 56, v 57, v 58, v 59, v 60, undef, undef, undef, undef, undef, undef, undef, undef, undef, undef, undef, undef, undef, undef, undef, undef, undef, undef, undef, undef, undef, undef, undef, undef, undef, undef, undef, undef, undef, undef, undef, undef, undef, undef, undef, undef, undef, undef, undef, undef, undef, undef, undef, undef, undef, undef, undef, undef, undef, undef, undef, undef, undef, undef, undef, undef, undef, undef, undef, undef, undef, undef, undef, undef, undef, undef, undef, undef, undef, undef, undef, undef, undef, undef, undef, undef, undef, undef, undef, undef, undef, undef, undef, undef, undef, undef, undef, undef, undef, undef, undef, undef, undef, undef, undef, undef, undef, undef, undef, undef, undef, undef, undef, undef, undef, undef, undef, undef, undef, undef, undef, undef, undef, undef, undef, undef, undef, undef, undef, undef, undef, undef, undef, undef, undef, undef, undef, undef, undef, undef, undef, undef, undef, undef, undef, undef, undef], defers := [] } : Act) ∧ Hid (Below w4.heap.size w4 w') ∧ Hid (Blk w' p11 36 #[.int .i64 a0, .int .i64 a1, .int .i64 a2, .int .i64 a3, .string a4, .string a5, .int .i64 a6, .int .i64 a7])) ?region11 ?post11
  case region11 =>
    go_region_held3 (fun _ => True) (trivial) (first
      | (go_at_call 16; (with_reducible refine (KN.out _ hd0).mono ?_); rintro r va ⟨rfl, hva⟩)
      | (go_at_call 16; (with_reducible refine (KNB.out _ _ hdA hbA).mono ?_); rintro r va ⟨rfl, hva, hvb⟩)
      | (go_at_call 21; (with_reducible refine (KFB.out _ _ hva hvb).mono ?_); rintro r vb ⟨rfl, hvc, hvd, c0, c1, c2, c3, c4, c5, c6, c7, d0, d1, d2, d3, d4, d5, d6, d7⟩)
      | (go_at_call 21; (with_reducible refine (KFB.out _ _ (hide (hva.out.alloc hva.out.size _)) (hide (Blk.new _ _ _))).mono ?_); rintro r vb ⟨rfl, hvc, hvd, c0, c1, c2, c3, c4, c5, c6, c7, d0, d1, d2, d3, d4, d5, d6, d7⟩)
      | (go_at_call 21; (with_reducible refine (KF.out _ hva).mono ?_); rintro r vb ⟨rfl, hvc⟩))
    all_goals refine intro_v (R' := fun v a' w' => ∃ p11 : Nat, a' = ({ tmps := #[.string s, .int .i64 (xn : Int), .int .i64 (yn : Int), undef, undef, undef, .bool false, .bool true, .pointer (some ⟨w3.heap.size, 0, none⟩), .int .i64 N, .int .i64 0, .pointer (some ⟨p11, 0, none⟩), .int .i64 I, .int .i64 0, undef, undef, undef, undef, undef, undef, undef, undef, undef, undef, undef, undef, v 26, v 27, v 28, v 29, v 30, v 31, v 32, v 33, v 34, v 35, v 36, v 37, v 38, v 39, v 40, v 41, v 42, v 43, v 44, v 45, v 46, v 47, v 48, v 49, v 50, v 51, v 52, v 53, v 54, v 55, v 56, v 57, v 58, v 59, v 60, undef, undef, undef, undef, undef, undef, undef, undef, undef, undef, undef, undef, undef, undef, undef, undef, undef, undef, undef, undef, undef, undef, undef, undef, undef, undef, undef, undef, undef, undef, undef, undef, undef, undef, undef, undef, undef, undef, undef, undef, undef, undef, undef, undef, undef, undef, undef, undef, undef, undef, undef, undef, undef, undef, undef, undef, undef, undef, undef, undef, undef, undef, undef, undef, undef, undef, undef, undef, undef, undef, undef, undef, undef, undef, undef, undef, undef, undef, undef, undef, undef, undef, undef, undef, undef, undef, undef, undef, undef, undef, undef, undef, undef, undef, undef, undef, undef, undef, undef, undef, undef, undef, undef, undef, undef, undef, undef, undef, undef, undef, undef, undef, undef, undef, undef, undef, undef, undef, undef, undef, undef, undef, undef, undef, undef, undef, undef, undef, undef, undef, undef, undef, undef, undef, undef, undef, undef], defers := [] } : Act) ∧ Hid (Below w4.heap.size w4 w') ∧ Hid (Blk w' p11 36 #[.int .i64 a0, .int .i64 a1, .int .i64 a2, .int .i64 a3, .string a4, .string a5, .int .i64 a6, .int .i64 a7])) ?_
    · exact ⟨vb.heap.size, rfl, hide (hvc.out.alloc hvc.out.size _), hide (Blk.new _ _ _)⟩
    · exact ⟨va.heap.size, rfl, hide (below_store8 hvc.out hva.out.size), hide (blk_store8 hvd.out _ _ _ _ _ _ _ _)⟩
    · exact ⟨w4.heap.size, rfl, hide (below_store8 hvc.out (Nat.le_refl _)), hide (blk_store8 hvd.out _ _ _ _ _ _ _ _)⟩
  case post11 =>
  rintro a' W11 ⟨v, p11, rfl, hg, hB11⟩
  clear KF KFB hd0 hdA hbA KN KNB
  have h5 := h4.trans (hg.out.mono h4.size)
  have BW := Lib.hid (BW.out.below hg.out BW.out.lt)
  clear hg h4
  go_wp2_with fail
  have hd0 : Hid (Below W11.heap.size W11 W11.drew) := hide (Below.refl _ _).drew
  have hdA : Hid (Below W11.heap.size W11 (W11.alloc (.cells #[.int .i64 0, .int .i64 0, .int .i64 0, .int .i64 0, .string ⟨#[]⟩, .string ⟨#[]⟩, .int .i64 0, .int .i64 0] 36)).drew) := hide ((Below.refl _ _).alloc (Nat.le_refl _) _).drew
  have hbA : Hid (Blk (W11.alloc (.cells #[.int .i64 0, .int .i64 0, .int .i64 0, .int .i64 0, .string ⟨#[]⟩, .string ⟨#[]⟩, .int .i64 0, .int .i64 0] 36)).drew W11.heap.size 36 #[.int .i64 0, .int .i64 0, .int .i64 0, .int .i64 0, .string ⟨#[]⟩, .string ⟨#[]⟩, .int .i64 0, .int .i64 0]) := hide (Blk.new W11 36 #[.int .i64 0, .int .i64 0, .int .i64 0, .int .i64 0, .string ⟨#[]⟩, .string ⟨#[]⟩, .int .i64 0, .int .i64 0]).drew
  have hlt : Hid (p11 < W11.heap.size) := hide hB11.out.lt
  have m1 : ¬ (W11.heap.size = p11) := by have := hlt.out; omega
  have m2 : ¬ (p11 = W11.heap.size) := by have := hlt.out; omega
  have y0 : W11.cell? ⟨p11, 0, none⟩ = some (.int .i64 a0) := hB11.out.cell 0
  have y1 : W11.cell? ⟨p11, 1, none⟩ = some (.int .i64 a1) := hB11.out.cell 1
  have y2 : W11.cell? ⟨p11, 2, none⟩ = some (.int .i64 a2) := hB11.out.cell 2
  have y3 : W11.cell? ⟨p11, 3, none⟩ = some (.int .i64 a3) := hB11.out.cell 3
  have y4 : W11.cell? ⟨p11, 4, none⟩ = some (.string a4) := hB11.out.cell 4
  have y5 : W11.cell? ⟨p11, 5, none⟩ = some (.string a5) := hB11.out.cell 5
  have y6 : W11.cell? ⟨p11, 6, none⟩ = some (.int .i64 a6) := hB11.out.cell 6
  have y7 : W11.cell? ⟨p11, 7, none⟩ = some (.int .i64 a7) := hB11.out.cell 7
  have kF : ∀ X : World, Hid (Below W11.heap.size W11 X) → Calls Tryz.prog 21 #[.agg #[.int .i64 a0, .int .i64 a1, .int .i64 a2, .int .i64 a3, .string a4, .string a5, .int .i64 a6, .int .i64 a7], .string sb] X fun e w' => e = .returned (.tuple #[.agg #[.int .i64 b0, .int .i64 b1, .int .i64 b2, .int .i64 b3, .string b4, .string b5, .int .i64 b6, .int .i64 b7], .int .i64 J, .int .i64 0]) ∧ Hid (Below W11.heap.size W11 w') ∧ w'.cell? ⟨p11, 0, none⟩ = some (.int .i64 a0) ∧ w'.cell? ⟨p11, 1, none⟩ = some (.int .i64 a1) ∧ w'.cell? ⟨p11, 2, none⟩ = some (.int .i64 a2) ∧ w'.cell? ⟨p11, 3, none⟩ = some (.int .i64 a3) ∧ w'.cell? ⟨p11, 4, none⟩ = some (.string a4) ∧ w'.cell? ⟨p11, 5, none⟩ = some (.string a5) ∧ w'.cell? ⟨p11, 6, none⟩ = some (.int .i64 a6) ∧ w'.cell? ⟨p11, 7, none⟩ = some (.int .i64 a7) := fun X hX => (CB.out X (h5.trans (hX.out.mono h5.size))).mono fun e w' ⟨he, g⟩ => ⟨he, hide (hX.out.trans (g.mono hX.out.size)), (hB11.out.below (hX.out.trans (g.mono hX.out.size)) hB11.out.lt).cell 0, (hB11.out.below (hX.out.trans (g.mono hX.out.size)) hB11.out.lt).cell 1, (hB11.out.below (hX.out.trans (g.mono hX.out.size)) hB11.out.lt).cell 2, (hB11.out.below (hX.out.trans (g.mono hX.out.size)) hB11.out.lt).cell 3, (hB11.out.below (hX.out.trans (g.mono hX.out.size)) hB11.out.lt).cell 4, (hB11.out.below (hX.out.trans (g.mono hX.out.size)) hB11.out.lt).cell 5, (hB11.out.below (hX.out.trans (g.mono hX.out.size)) hB11.out.lt).cell 6, (hB11.out.below (hX.out.trans (g.mono hX.out.size)) hB11.out.lt).cell 7⟩
  have kFB : ∀ (X : World) (p : Nat), Hid (Below W11.heap.size W11 X) → Hid (Blk X p 36 #[.int .i64 0, .int .i64 0, .int .i64 0, .int .i64 0, .string ⟨#[]⟩, .string ⟨#[]⟩, .int .i64 0, .int .i64 0]) → Calls Tryz.prog 21 #[.agg #[.int .i64 a0, .int .i64 a1, .int .i64 a2, .int .i64 a3, .string a4, .string a5, .int .i64 a6, .int .i64 a7], .string sb] X fun e w' => e = .returned (.tuple #[.agg #[.int .i64 b0, .int .i64 b1, .int .i64 b2, .int .i64 b3, .string b4, .string b5, .int .i64 b6, .int .i64 b7], .int .i64 J, .int .i64 0]) ∧ Hid (Below W11.heap.size W11 w') ∧ w'.cell? ⟨p11, 0, none⟩ = some (.int .i64 a0) ∧ w'.cell? ⟨p11, 1, none⟩ = some (.int .i64 a1) ∧ w'.cell? ⟨p11, 2, none⟩ = some (.int .i64 a2) ∧ w'.cell? ⟨p11, 3, none⟩ = some (.int .i64 a3) ∧ w'.cell? ⟨p11, 4, none⟩ = some (.string a4) ∧ w'.cell? ⟨p11, 5, none⟩ = some (.string a5) ∧ w'.cell? ⟨p11, 6, none⟩ = some (.int .i64 a6) ∧ w'.cell? ⟨p11, 7, none⟩ = some (.int .i64 a7) ∧ Hid (Blk w' p 36 #[.int .i64 0, .int .i64 0, .int .i64 0, .int .i64 0, .string ⟨#[]⟩, .string ⟨#[]⟩, .int .i64 0, .int .i64 0]) ∧ w'.cell? ⟨p, 0, none⟩ = some (.int .i64 0) ∧ w'.cell? ⟨p, 1, none⟩ = some (.int .i64 0) ∧ w'.cell? ⟨p, 2, none⟩ = some (.int .i64 0) ∧ w'.cell? ⟨p, 3, none⟩ = some (.int .i64 0) ∧ w'.cell? ⟨p, 4, none⟩ = some (.string ⟨#[]⟩) ∧ w'.cell? ⟨p, 5, none⟩ = some (.string ⟨#[]⟩) ∧ w'.cell? ⟨p, 6, none⟩ = some (.int .i64 0) ∧ w'.cell? ⟨p, 7, none⟩ = some (.int .i64 0) ∧ w'.frozen? ⟨p, 0, none⟩ = false ∧ w'.frozen? ⟨p, 1, none⟩ = false ∧ w'.frozen? ⟨p, 2, none⟩ = false ∧ w'.frozen? ⟨p, 3, none⟩ = false ∧ w'.frozen? ⟨p, 4, none⟩ = false ∧ w'.frozen? ⟨p, 5, none⟩ = false ∧ w'.frozen? ⟨p, 6, none⟩ = false ∧ w'.frozen? ⟨p, 7, none⟩ = false := fun X p hX hB => (CB.out X (h5.trans (hX.out.mono h5.size))).mono fun e w' ⟨he, g⟩ => by
    have hb := hB.out.below g hB.out.lt
    exact ⟨he, hide (hX.out.trans (g.mono hX.out.size)), (hB11.out.below (hX.out.trans (g.mono hX.out.size)) hB11.out.lt).cell 0, (hB11.out.below (hX.out.trans (g.mono hX.out.size)) hB11.out.lt).cell 1, (hB11.out.below (hX.out.trans (g.mono hX.out.size)) hB11.out.lt).cell 2, (hB11.out.below (hX.out.trans (g.mono hX.out.size)) hB11.out.lt).cell 3, (hB11.out.below (hX.out.trans (g.mono hX.out.size)) hB11.out.lt).cell 4, (hB11.out.below (hX.out.trans (g.mono hX.out.size)) hB11.out.lt).cell 5, (hB11.out.below (hX.out.trans (g.mono hX.out.size)) hB11.out.lt).cell 6, (hB11.out.below (hX.out.trans (g.mono hX.out.size)) hB11.out.lt).cell 7, hide hb, hb.cell 0, hb.cell 1, hb.cell 2, hb.cell 3, hb.cell 4, hb.cell 5, hb.cell 6, hb.cell 7, hb.frozen 0, hb.frozen 1, hb.frozen 2, hb.frozen 3, hb.frozen 4, hb.frozen 5, hb.frozen 6, hb.frozen 7⟩
  have KF := Lib.hid kF
  have KFB := Lib.hid kFB
  clear kF kFB
  refine wp_normalK (R := fun a' w' => ∃ (v : Nat → Value) (p14 : Nat), a' = ({ tmps := #[.string s, .int .i64 (xn : Int), .int .i64 (yn : Int), undef, undef, undef, .bool false, .bool true, .pointer (some ⟨w3.heap.size, 0, none⟩), .int .i64 N, .int .i64 0, .pointer (some ⟨p11, 0, none⟩), .int .i64 I, .int .i64 0, .pointer (some ⟨p14, 0, none⟩), .int .i64 J, .int .i64 0, undef, undef, undef, undef, undef, undef, undef, undef, undef, v 26, v 27, v 28, v 29, v 30, v 31, v 32, v 33, v 34, v 35, v 36, v 37, v 38, v 39, v 40, v 41, v 42, v 43, v 44, v 45, v 46, v 47, v 48, v 49, v 50, v 51, v 52, v 53, v 54, v 55, v 56, v 57, v 58, v 59, v 60, v 61, v 62, v 63, v 64, v 65, v 66, v 67, v 68, v 69, v 70, undef, undef, undef, undef, undef, undef, undef, undef, undef, undef, undef, undef, undef, undef, undef, undef, undef, undef, undef, undef, undef, undef, undef, undef, undef, undef, undef, undef, undef, undef, undef, undef, undef, undef, undef, undef, undef, undef, undef, undef, undef, undef, undef, undef, undef, undef, undef, undef, undef, undef, undef, undef, undef, undef, undef, undef, undef, undef, undef, undef, undef, undef, undef, undef, undef, undef, undef, undef, undef, undef, undef, undef, undef, undef, undef, undef, undef, undef, undef, undef, undef, undef, undef, undef, undef, undef, undef, undef, undef, undef, undef, undef, undef, undef, undef, undef, undef, undef, undef, undef, undef, undef, undef, undef, undef, undef, undef, undef, undef, undef, undef, undef, undef, undef, undef, undef, undef, undef, undef, undef, undef, undef, undef, undef, undef, undef, undef], defers := [] } : Act) ∧ Hid (Below W11.heap.size W11 w') ∧ Hid (Blk w' p14 36 #[.int .i64 b0, .int .i64 b1, .int .i64 b2, .int .i64 b3, .string b4, .string b5, .int .i64 b6, .int .i64 b7])) ?region14 ?post14
  case region14 =>
    go_region_held3 (fun w' => w'.cell? ⟨p11, 0, none⟩ = some (.int .i64 a0) ∧ w'.cell? ⟨p11, 1, none⟩ = some (.int .i64 a1) ∧ w'.cell? ⟨p11, 2, none⟩ = some (.int .i64 a2) ∧ w'.cell? ⟨p11, 3, none⟩ = some (.int .i64 a3) ∧ w'.cell? ⟨p11, 4, none⟩ = some (.string a4) ∧ w'.cell? ⟨p11, 5, none⟩ = some (.string a5) ∧ w'.cell? ⟨p11, 6, none⟩ = some (.int .i64 a6) ∧ w'.cell? ⟨p11, 7, none⟩ = some (.int .i64 a7)) (go_keep) (first
      | (go_at_call 21; (with_reducible refine (KF.out _ hd0).mono ?_); rintro r vb ⟨rfl, hvc, s0, s1, s2, s3, s4, s5, s6, s7⟩; have m5 : ¬ (vb.heap.size = p11) := fun e => Nat.lt_irrefl p11 (Nat.lt_of_lt_of_eq (Nat.lt_of_lt_of_le hlt.out hvc.out.size) e); have m6 : ¬ (p11 = vb.heap.size) := fun e => m5 e.symm)
      | (go_at_call 21; (with_reducible refine (KFB.out _ _ hdA hbA).mono ?_); rintro r vb ⟨rfl, hvc, s0, s1, s2, s3, s4, s5, s6, s7, hvd, c0, c1, c2, c3, c4, c5, c6, c7, d0, d1, d2, d3, d4, d5, d6, d7⟩; have m5 : ¬ (vb.heap.size = p11) := fun e => Nat.lt_irrefl p11 (Nat.lt_of_lt_of_eq (Nat.lt_of_lt_of_le hlt.out hvc.out.size) e); have m6 : ¬ (p11 = vb.heap.size) := fun e => m5 e.symm))
    all_goals refine intro_v (R' := fun v a' w' => ∃ p14 : Nat, a' = ({ tmps := #[.string s, .int .i64 (xn : Int), .int .i64 (yn : Int), undef, undef, undef, .bool false, .bool true, .pointer (some ⟨w3.heap.size, 0, none⟩), .int .i64 N, .int .i64 0, .pointer (some ⟨p11, 0, none⟩), .int .i64 I, .int .i64 0, .pointer (some ⟨p14, 0, none⟩), .int .i64 J, .int .i64 0, undef, undef, undef, undef, undef, undef, undef, undef, undef, v 26, v 27, v 28, v 29, v 30, v 31, v 32, v 33, v 34, v 35, v 36, v 37, v 38, v 39, v 40, v 41, v 42, v 43, v 44, v 45, v 46, v 47, v 48, v 49, v 50, v 51, v 52, v 53, v 54, v 55, v 56, v 57, v 58, v 59, v 60, v 61, v 62, v 63, v 64, v 65, v 66, v 67, v 68, v 69, v 70, undef, undef, undef, undef, undef, undef, undef, undef, undef, undef, undef, undef, undef, undef, undef, undef, undef, undef, undef, undef, undef, undef, undef, undef, undef, undef, undef, undef, undef, undef, undef, undef, undef, undef, undef, undef, undef, undef, undef, undef, undef, undef, undef, undef, undef, undef, undef, undef, undef, undef, undef, undef, undef, undef, undef, undef, undef, undef, undef, undef, undef, undef, undef, undef, undef, undef, undef, undef, undef, undef, undef, undef, undef, undef, undef, undef, undef, undef, undef, undef, undef, undef, undef, undef, undef, undef, undef, undef, undef, undef, undef, undef, undef, undef, undef, undef, undef, undef, undef, undef, undef, undef, undef, undef, undef, undef, undef, undef, undef, undef, undef, undef, undef, undef, undef, undef, undef, undef, undef, undef, undef, undef, undef, undef, undef, undef, undef], defers := [] } : Act) ∧ Hid (Below W11.heap.size W11 w') ∧ Hid (Blk w' p14 36 #[.int .i64 b0, .int .i64 b1, .int .i64 b2, .int .i64 b3, .string b4, .string b5, .int .i64 b6, .int .i64 b7])) ?_
    · exact ⟨vb.heap.size, rfl, hide (hvc.out.alloc hvc.out.size _), hide (Blk.new _ _ _)⟩
    · exact ⟨W11.heap.size, rfl, hide (below_store8 hvc.out (Nat.le_refl _)), hide (blk_store8 hvd.out _ _ _ _ _ _ _ _)⟩
  case post14 =>
  rintro a' W14 ⟨v, p14, rfl, hg, hB14⟩
  clear KF KFB hd0 hdA hbA
  clear hlt m1 m2 y0 y1 y2 y3 y4 y5 y6 y7
  have h6 := h5.trans (hg.out.mono h5.size)
  have BW := Lib.hid (BW.out.below hg.out BW.out.lt)
  have hB11 := Lib.hid (hB11.out.below hg.out hB11.out.lt)
  clear hg h5
  go_wp2_with fail
  have hd0 : Hid (Below W14.heap.size W14 W14.drew) := hide (Below.refl _ _).drew
  have hdA : Hid (Below W14.heap.size W14 (W14.alloc (.cells #[.int .i64 0, .int .i64 0, .int .i64 0, .int .i64 0, .string ⟨#[]⟩, .string ⟨#[]⟩, .int .i64 0, .int .i64 0] 36)).drew) := hide ((Below.refl _ _).alloc (Nat.le_refl _) _).drew
  have hbA : Hid (Blk (W14.alloc (.cells #[.int .i64 0, .int .i64 0, .int .i64 0, .int .i64 0, .string ⟨#[]⟩, .string ⟨#[]⟩, .int .i64 0, .int .i64 0] 36)).drew W14.heap.size 36 #[.int .i64 0, .int .i64 0, .int .i64 0, .int .i64 0, .string ⟨#[]⟩, .string ⟨#[]⟩, .int .i64 0, .int .i64 0]) := hide (Blk.new W14 36 #[.int .i64 0, .int .i64 0, .int .i64 0, .int .i64 0, .string ⟨#[]⟩, .string ⟨#[]⟩, .int .i64 0, .int .i64 0]).drew
  have hlt : Hid (p14 < W14.heap.size) := hide hB14.out.lt
  have m1 : ¬ (W14.heap.size = p14) := by have := hlt.out; omega
  have m2 : ¬ (p14 = W14.heap.size) := by have := hlt.out; omega
  have y0 : W14.cell? ⟨p14, 0, none⟩ = some (.int .i64 b0) := hB14.out.cell 0
  have y1 : W14.cell? ⟨p14, 1, none⟩ = some (.int .i64 b1) := hB14.out.cell 1
  have y2 : W14.cell? ⟨p14, 2, none⟩ = some (.int .i64 b2) := hB14.out.cell 2
  have y3 : W14.cell? ⟨p14, 3, none⟩ = some (.int .i64 b3) := hB14.out.cell 3
  have y4 : W14.cell? ⟨p14, 4, none⟩ = some (.string b4) := hB14.out.cell 4
  have y5 : W14.cell? ⟨p14, 5, none⟩ = some (.string b5) := hB14.out.cell 5
  have y6 : W14.cell? ⟨p14, 6, none⟩ = some (.int .i64 b6) := hB14.out.cell 6
  have y7 : W14.cell? ⟨p14, 7, none⟩ = some (.int .i64 b7) := hB14.out.cell 7
  have kF : ∀ X : World, Hid (Below W14.heap.size W14 X) → Calls Tryz.prog 21 #[.agg #[.int .i64 b0, .int .i64 b1, .int .i64 b2, .int .i64 b3, .string b4, .string b5, .int .i64 b6, .int .i64 b7], .string sc] X fun e w' => e = .returned (.tuple #[.agg #[.int .i64 p0, .int .i64 p1, .int .i64 p2, .int .i64 p3, .string p4, .string p5, .int .i64 p6, .int .i64 p7], .int .i64 KK, .int .i64 0]) ∧ Hid (Below W14.heap.size W14 w') ∧ w'.cell? ⟨p14, 0, none⟩ = some (.int .i64 b0) ∧ w'.cell? ⟨p14, 1, none⟩ = some (.int .i64 b1) ∧ w'.cell? ⟨p14, 2, none⟩ = some (.int .i64 b2) ∧ w'.cell? ⟨p14, 3, none⟩ = some (.int .i64 b3) ∧ w'.cell? ⟨p14, 4, none⟩ = some (.string b4) ∧ w'.cell? ⟨p14, 5, none⟩ = some (.string b5) ∧ w'.cell? ⟨p14, 6, none⟩ = some (.int .i64 b6) ∧ w'.cell? ⟨p14, 7, none⟩ = some (.int .i64 b7) := fun X hX => (CC.out X (h6.trans (hX.out.mono h6.size))).mono fun e w' ⟨he, g⟩ => ⟨he, hide (hX.out.trans (g.mono hX.out.size)), (hB14.out.below (hX.out.trans (g.mono hX.out.size)) hB14.out.lt).cell 0, (hB14.out.below (hX.out.trans (g.mono hX.out.size)) hB14.out.lt).cell 1, (hB14.out.below (hX.out.trans (g.mono hX.out.size)) hB14.out.lt).cell 2, (hB14.out.below (hX.out.trans (g.mono hX.out.size)) hB14.out.lt).cell 3, (hB14.out.below (hX.out.trans (g.mono hX.out.size)) hB14.out.lt).cell 4, (hB14.out.below (hX.out.trans (g.mono hX.out.size)) hB14.out.lt).cell 5, (hB14.out.below (hX.out.trans (g.mono hX.out.size)) hB14.out.lt).cell 6, (hB14.out.below (hX.out.trans (g.mono hX.out.size)) hB14.out.lt).cell 7⟩
  have kFB : ∀ (X : World) (p : Nat), Hid (Below W14.heap.size W14 X) → Hid (Blk X p 36 #[.int .i64 0, .int .i64 0, .int .i64 0, .int .i64 0, .string ⟨#[]⟩, .string ⟨#[]⟩, .int .i64 0, .int .i64 0]) → Calls Tryz.prog 21 #[.agg #[.int .i64 b0, .int .i64 b1, .int .i64 b2, .int .i64 b3, .string b4, .string b5, .int .i64 b6, .int .i64 b7], .string sc] X fun e w' => e = .returned (.tuple #[.agg #[.int .i64 p0, .int .i64 p1, .int .i64 p2, .int .i64 p3, .string p4, .string p5, .int .i64 p6, .int .i64 p7], .int .i64 KK, .int .i64 0]) ∧ Hid (Below W14.heap.size W14 w') ∧ w'.cell? ⟨p14, 0, none⟩ = some (.int .i64 b0) ∧ w'.cell? ⟨p14, 1, none⟩ = some (.int .i64 b1) ∧ w'.cell? ⟨p14, 2, none⟩ = some (.int .i64 b2) ∧ w'.cell? ⟨p14, 3, none⟩ = some (.int .i64 b3) ∧ w'.cell? ⟨p14, 4, none⟩ = some (.string b4) ∧ w'.cell? ⟨p14, 5, none⟩ = some (.string b5) ∧ w'.cell? ⟨p14, 6, none⟩ = some (.int .i64 b6) ∧ w'.cell? ⟨p14, 7, none⟩ = some (.int .i64 b7) ∧ Hid (Blk w' p 36 #[.int .i64 0, .int .i64 0, .int .i64 0, .int .i64 0, .string ⟨#[]⟩, .string ⟨#[]⟩, .int .i64 0, .int .i64 0]) ∧ w'.cell? ⟨p, 0, none⟩ = some (.int .i64 0) ∧ w'.cell? ⟨p, 1, none⟩ = some (.int .i64 0) ∧ w'.cell? ⟨p, 2, none⟩ = some (.int .i64 0) ∧ w'.cell? ⟨p, 3, none⟩ = some (.int .i64 0) ∧ w'.cell? ⟨p, 4, none⟩ = some (.string ⟨#[]⟩) ∧ w'.cell? ⟨p, 5, none⟩ = some (.string ⟨#[]⟩) ∧ w'.cell? ⟨p, 6, none⟩ = some (.int .i64 0) ∧ w'.cell? ⟨p, 7, none⟩ = some (.int .i64 0) ∧ w'.frozen? ⟨p, 0, none⟩ = false ∧ w'.frozen? ⟨p, 1, none⟩ = false ∧ w'.frozen? ⟨p, 2, none⟩ = false ∧ w'.frozen? ⟨p, 3, none⟩ = false ∧ w'.frozen? ⟨p, 4, none⟩ = false ∧ w'.frozen? ⟨p, 5, none⟩ = false ∧ w'.frozen? ⟨p, 6, none⟩ = false ∧ w'.frozen? ⟨p, 7, none⟩ = false := fun X p hX hB => (CC.out X (h6.trans (hX.out.mono h6.size))).mono fun e w' ⟨he, g⟩ => by
    have hb := hB.out.below g hB.out.lt
    exact ⟨he, hide (hX.out.trans (g.mono hX.out.size)), (hB14.out.below (hX.out.trans (g.mono hX.out.size)) hB14.out.lt).cell 0, (hB14.out.below (hX.out.trans (g.mono hX.out.size)) hB14.out.lt).cell 1, (hB14.out.below (hX.out.trans (g.mono hX.out.size)) hB14.out.lt).cell 2, (hB14.out.below (hX.out.trans (g.mono hX.out.size)) hB14.out.lt).cell 3, (hB14.out.below (hX.out.trans (g.mono hX.out.size)) hB14.out.lt).cell 4, (hB14.out.below (hX.out.trans (g.mono hX.out.size)) hB14.out.lt).cell 5, (hB14.out.below (hX.out.trans (g.mono hX.out.size)) hB14.out.lt).cell 6, (hB14.out.below (hX.out.trans (g.mono hX.out.size)) hB14.out.lt).cell 7, hide hb, hb.cell 0, hb.cell 1, hb.cell 2, hb.cell 3, hb.cell 4, hb.cell 5, hb.cell 6, hb.cell 7, hb.frozen 0, hb.frozen 1, hb.frozen 2, hb.frozen 3, hb.frozen 4, hb.frozen 5, hb.frozen 6, hb.frozen 7⟩
  have KF := Lib.hid kF
  have KFB := Lib.hid kFB
  clear kF kFB
  refine wp_normalK (R := fun a' w' => ∃ (v : Nat → Value) (p17 : Nat), a' = ({ tmps := #[.string s, .int .i64 (xn : Int), .int .i64 (yn : Int), undef, undef, undef, .bool false, .bool true, .pointer (some ⟨w3.heap.size, 0, none⟩), .int .i64 N, .int .i64 0, .pointer (some ⟨p11, 0, none⟩), .int .i64 I, .int .i64 0, .pointer (some ⟨p14, 0, none⟩), .int .i64 J, .int .i64 0, .pointer (some ⟨p17, 0, none⟩), .int .i64 KK, .int .i64 0, undef, undef, undef, undef, undef, undef, v 26, v 27, v 28, v 29, v 30, v 31, v 32, v 33, v 34, v 35, v 36, v 37, v 38, v 39, v 40, v 41, v 42, v 43, v 44, v 45, v 46, v 47, v 48, v 49, v 50, v 51, v 52, v 53, v 54, v 55, v 56, v 57, v 58, v 59, v 60, v 61, v 62, v 63, v 64, v 65, v 66, v 67, v 68, v 69, v 70, v 71, v 72, v 73, v 74, v 75, v 76, v 77, v 78, v 79, undef, undef, undef, undef, undef, undef, undef, undef, undef, undef, undef, undef, undef, undef, undef, undef, undef, undef, undef, undef, undef, undef, undef, undef, undef, undef, undef, undef, undef, undef, undef, undef, undef, undef, undef, undef, undef, undef, undef, undef, undef, undef, undef, undef, undef, undef, undef, undef, undef, undef, undef, undef, undef, undef, undef, undef, undef, undef, undef, undef, undef, undef, undef, undef, undef, undef, undef, undef, undef, undef, undef, undef, undef, undef, undef, undef, undef, undef, undef, undef, undef, undef, undef, undef, undef, undef, undef, undef, undef, undef, undef, undef, undef, undef, undef, undef, undef, undef, undef, undef, undef, undef, undef, undef, undef, undef, undef, undef, undef, undef, undef, undef, undef, undef, undef, undef, undef, undef], defers := [] } : Act) ∧ Hid (Below W14.heap.size W14 w') ∧ Hid (Blk w' p17 36 #[.int .i64 p0, .int .i64 p1, .int .i64 p2, .int .i64 p3, .string p4, .string p5, .int .i64 p6, .int .i64 p7])) ?region17 ?post17
  case region17 =>
    go_region_held3 (fun w' => w'.cell? ⟨p14, 0, none⟩ = some (.int .i64 b0) ∧ w'.cell? ⟨p14, 1, none⟩ = some (.int .i64 b1) ∧ w'.cell? ⟨p14, 2, none⟩ = some (.int .i64 b2) ∧ w'.cell? ⟨p14, 3, none⟩ = some (.int .i64 b3) ∧ w'.cell? ⟨p14, 4, none⟩ = some (.string b4) ∧ w'.cell? ⟨p14, 5, none⟩ = some (.string b5) ∧ w'.cell? ⟨p14, 6, none⟩ = some (.int .i64 b6) ∧ w'.cell? ⟨p14, 7, none⟩ = some (.int .i64 b7)) (go_keep) (first
      | (go_at_call 21; (with_reducible refine (KF.out _ hd0).mono ?_); rintro r vb ⟨rfl, hvc, s0, s1, s2, s3, s4, s5, s6, s7⟩; have m5 : ¬ (vb.heap.size = p14) := fun e => Nat.lt_irrefl p14 (Nat.lt_of_lt_of_eq (Nat.lt_of_lt_of_le hlt.out hvc.out.size) e); have m6 : ¬ (p14 = vb.heap.size) := fun e => m5 e.symm)
      | (go_at_call 21; (with_reducible refine (KFB.out _ _ hdA hbA).mono ?_); rintro r vb ⟨rfl, hvc, s0, s1, s2, s3, s4, s5, s6, s7, hvd, c0, c1, c2, c3, c4, c5, c6, c7, d0, d1, d2, d3, d4, d5, d6, d7⟩; have m5 : ¬ (vb.heap.size = p14) := fun e => Nat.lt_irrefl p14 (Nat.lt_of_lt_of_eq (Nat.lt_of_lt_of_le hlt.out hvc.out.size) e); have m6 : ¬ (p14 = vb.heap.size) := fun e => m5 e.symm))
    all_goals refine intro_v (R' := fun v a' w' => ∃ p17 : Nat, a' = ({ tmps := #[.string s, .int .i64 (xn : Int), .int .i64 (yn : Int), undef, undef, undef, .bool false, .bool true, .pointer (some ⟨w3.heap.size, 0, none⟩), .int .i64 N, .int .i64 0, .pointer (some ⟨p11, 0, none⟩), .int .i64 I, .int .i64 0, .pointer (some ⟨p14, 0, none⟩), .int .i64 J, .int .i64 0, .pointer (some ⟨p17, 0, none⟩), .int .i64 KK, .int .i64 0, undef, undef, undef, undef, undef, undef, v 26, v 27, v 28, v 29, v 30, v 31, v 32, v 33, v 34, v 35, v 36, v 37, v 38, v 39, v 40, v 41, v 42, v 43, v 44, v 45, v 46, v 47, v 48, v 49, v 50, v 51, v 52, v 53, v 54, v 55, v 56, v 57, v 58, v 59, v 60, v 61, v 62, v 63, v 64, v 65, v 66, v 67, v 68, v 69, v 70, v 71, v 72, v 73, v 74, v 75, v 76, v 77, v 78, v 79, undef, undef, undef, undef, undef, undef, undef, undef, undef, undef, undef, undef, undef, undef, undef, undef, undef, undef, undef, undef, undef, undef, undef, undef, undef, undef, undef, undef, undef, undef, undef, undef, undef, undef, undef, undef, undef, undef, undef, undef, undef, undef, undef, undef, undef, undef, undef, undef, undef, undef, undef, undef, undef, undef, undef, undef, undef, undef, undef, undef, undef, undef, undef, undef, undef, undef, undef, undef, undef, undef, undef, undef, undef, undef, undef, undef, undef, undef, undef, undef, undef, undef, undef, undef, undef, undef, undef, undef, undef, undef, undef, undef, undef, undef, undef, undef, undef, undef, undef, undef, undef, undef, undef, undef, undef, undef, undef, undef, undef, undef, undef, undef, undef, undef, undef, undef, undef, undef], defers := [] } : Act) ∧ Hid (Below W14.heap.size W14 w') ∧ Hid (Blk w' p17 36 #[.int .i64 p0, .int .i64 p1, .int .i64 p2, .int .i64 p3, .string p4, .string p5, .int .i64 p6, .int .i64 p7])) ?_
    · exact ⟨vb.heap.size, rfl, hide (hvc.out.alloc hvc.out.size _), hide (Blk.new _ _ _)⟩
    · exact ⟨W14.heap.size, rfl, hide (below_store8 hvc.out (Nat.le_refl _)), hide (blk_store8 hvd.out _ _ _ _ _ _ _ _)⟩
  case post17 =>
  rintro a' W17 ⟨v, p17, rfl, hg, hB17⟩
  clear KF KFB hd0 hdA hbA
  clear hlt m1 m2 y0 y1 y2 y3 y4 y5 y6 y7
  have h7 := h6.trans (hg.out.mono h6.size)
  have BW := Lib.hid (BW.out.below hg.out BW.out.lt)
  have hB11 := Lib.hid (hB11.out.below hg.out hB11.out.lt)
  have hB14 := Lib.hid (hB14.out.below hg.out hB14.out.lt)
  clear hg h6
  obtain ⟨⟨I0, J0, K0⟩, I4, J4, K4⟩ := q6.out
  have e5 : I + J + KK = N := q5.out
  have w1' : IntKind.i64.wrap (I + J) = I + J := by rw [IntKind.wrap_i64]; omega
  have w2' : IntKind.i64.wrap (I + J + KK) = N := by rw [IntKind.wrap_i64, e5]; omega
  have hB17 := Lib.hid hB17.out
  have k0 := h7
  have BW_0_0 : W17.cell? ⟨w3.heap.size, 0, none⟩ = some (.int .i64 p0) := BW.out.cell 0
  have BW_0_1 : W17.cell? ⟨w3.heap.size, 1, none⟩ = some (.int .i64 p1) := BW.out.cell 1
  have BW_0_2 : W17.cell? ⟨w3.heap.size, 2, none⟩ = some (.int .i64 p2) := BW.out.cell 2
  have BW_0_3 : W17.cell? ⟨w3.heap.size, 3, none⟩ = some (.int .i64 p3) := BW.out.cell 3
  have BW_0_4 : W17.cell? ⟨w3.heap.size, 4, none⟩ = some (.string p4) := BW.out.cell 4
  have BW_0_5 : W17.cell? ⟨w3.heap.size, 5, none⟩ = some (.string p5) := BW.out.cell 5
  have BW_0_6 : W17.cell? ⟨w3.heap.size, 6, none⟩ = some (.int .i64 p6) := BW.out.cell 6
  have BW_0_7 : W17.cell? ⟨w3.heap.size, 7, none⟩ = some (.int .i64 p7) := BW.out.cell 7
  have hB11_0_0 : W17.cell? ⟨p11, 0, none⟩ = some (.int .i64 a0) := hB11.out.cell 0
  have hB11_0_1 : W17.cell? ⟨p11, 1, none⟩ = some (.int .i64 a1) := hB11.out.cell 1
  have hB11_0_2 : W17.cell? ⟨p11, 2, none⟩ = some (.int .i64 a2) := hB11.out.cell 2
  have hB11_0_3 : W17.cell? ⟨p11, 3, none⟩ = some (.int .i64 a3) := hB11.out.cell 3
  have hB11_0_4 : W17.cell? ⟨p11, 4, none⟩ = some (.string a4) := hB11.out.cell 4
  have hB11_0_5 : W17.cell? ⟨p11, 5, none⟩ = some (.string a5) := hB11.out.cell 5
  have hB11_0_6 : W17.cell? ⟨p11, 6, none⟩ = some (.int .i64 a6) := hB11.out.cell 6
  have hB11_0_7 : W17.cell? ⟨p11, 7, none⟩ = some (.int .i64 a7) := hB11.out.cell 7
  have hB14_0_0 : W17.cell? ⟨p14, 0, none⟩ = some (.int .i64 b0) := hB14.out.cell 0
  have hB14_0_1 : W17.cell? ⟨p14, 1, none⟩ = some (.int .i64 b1) := hB14.out.cell 1
  have hB14_0_2 : W17.cell? ⟨p14, 2, none⟩ = some (.int .i64 b2) := hB14.out.cell 2
  have hB14_0_3 : W17.cell? ⟨p14, 3, none⟩ = some (.int .i64 b3) := hB14.out.cell 3
  have hB14_0_4 : W17.cell? ⟨p14, 4, none⟩ = some (.string b4) := hB14.out.cell 4
  have hB14_0_5 : W17.cell? ⟨p14, 5, none⟩ = some (.string b5) := hB14.out.cell 5
  have hB14_0_6 : W17.cell? ⟨p14, 6, none⟩ = some (.int .i64 b6) := hB14.out.cell 6
  have hB14_0_7 : W17.cell? ⟨p14, 7, none⟩ = some (.int .i64 b7) := hB14.out.cell 7
  have hB17_0_0 : W17.cell? ⟨p17, 0, none⟩ = some (.int .i64 p0) := hB17.out.cell 0
  have hB17_0_1 : W17.cell? ⟨p17, 1, none⟩ = some (.int .i64 p1) := hB17.out.cell 1
  have hB17_0_2 : W17.cell? ⟨p17, 2, none⟩ = some (.int .i64 p2) := hB17.out.cell 2
  have hB17_0_3 : W17.cell? ⟨p17, 3, none⟩ = some (.int .i64 p3) := hB17.out.cell 3
  have hB17_0_4 : W17.cell? ⟨p17, 4, none⟩ = some (.string p4) := hB17.out.cell 4
  have hB17_0_5 : W17.cell? ⟨p17, 5, none⟩ = some (.string p5) := hB17.out.cell 5
  have hB17_0_6 : W17.cell? ⟨p17, 6, none⟩ = some (.int .i64 p6) := hB17.out.cell 6
  have hB17_0_7 : W17.cell? ⟨p17, 7, none⟩ = some (.int .i64 p7) := hB17.out.cell 7
  go_wp2_with fail
  (with_reducible refine (KA.out _).mono ?_); rintro e z1 ⟨rfl, g⟩
  have k1 := k0.trans (g.mono k0.size)
  have BW := Lib.hid (BW.out.below g BW.out.lt)
  have hB11 := Lib.hid (hB11.out.below g hB11.out.lt)
  have hB14 := Lib.hid (hB14.out.below g hB14.out.lt)
  have hB17 := Lib.hid (hB17.out.below g hB17.out.lt)
  clear g k0 BW_0_0 BW_0_1 BW_0_2 BW_0_3 BW_0_4 BW_0_5 BW_0_6 BW_0_7 hB11_0_0 hB11_0_1 hB11_0_2 hB11_0_3 hB11_0_4 hB11_0_5 hB11_0_6 hB11_0_7 hB14_0_0 hB14_0_1 hB14_0_2 hB14_0_3 hB14_0_4 hB14_0_5 hB14_0_6 hB14_0_7 hB17_0_0 hB17_0_1 hB17_0_2 hB17_0_3 hB17_0_4 hB17_0_5 hB17_0_6 hB17_0_7
  have BW_1_0 : z1.cell? ⟨w3.heap.size, 0, none⟩ = some (.int .i64 p0) := BW.out.cell 0
  have BW_1_1 : z1.cell? ⟨w3.heap.size, 1, none⟩ = some (.int .i64 p1) := BW.out.cell 1
  have BW_1_2 : z1.cell? ⟨w3.heap.size, 2, none⟩ = some (.int .i64 p2) := BW.out.cell 2
  have BW_1_3 : z1.cell? ⟨w3.heap.size, 3, none⟩ = some (.int .i64 p3) := BW.out.cell 3
  have BW_1_4 : z1.cell? ⟨w3.heap.size, 4, none⟩ = some (.string p4) := BW.out.cell 4
  have BW_1_5 : z1.cell? ⟨w3.heap.size, 5, none⟩ = some (.string p5) := BW.out.cell 5
  have BW_1_6 : z1.cell? ⟨w3.heap.size, 6, none⟩ = some (.int .i64 p6) := BW.out.cell 6
  have BW_1_7 : z1.cell? ⟨w3.heap.size, 7, none⟩ = some (.int .i64 p7) := BW.out.cell 7
  have hB11_1_0 : z1.cell? ⟨p11, 0, none⟩ = some (.int .i64 a0) := hB11.out.cell 0
  have hB11_1_1 : z1.cell? ⟨p11, 1, none⟩ = some (.int .i64 a1) := hB11.out.cell 1
  have hB11_1_2 : z1.cell? ⟨p11, 2, none⟩ = some (.int .i64 a2) := hB11.out.cell 2
  have hB11_1_3 : z1.cell? ⟨p11, 3, none⟩ = some (.int .i64 a3) := hB11.out.cell 3
  have hB11_1_4 : z1.cell? ⟨p11, 4, none⟩ = some (.string a4) := hB11.out.cell 4
  have hB11_1_5 : z1.cell? ⟨p11, 5, none⟩ = some (.string a5) := hB11.out.cell 5
  have hB11_1_6 : z1.cell? ⟨p11, 6, none⟩ = some (.int .i64 a6) := hB11.out.cell 6
  have hB11_1_7 : z1.cell? ⟨p11, 7, none⟩ = some (.int .i64 a7) := hB11.out.cell 7
  have hB14_1_0 : z1.cell? ⟨p14, 0, none⟩ = some (.int .i64 b0) := hB14.out.cell 0
  have hB14_1_1 : z1.cell? ⟨p14, 1, none⟩ = some (.int .i64 b1) := hB14.out.cell 1
  have hB14_1_2 : z1.cell? ⟨p14, 2, none⟩ = some (.int .i64 b2) := hB14.out.cell 2
  have hB14_1_3 : z1.cell? ⟨p14, 3, none⟩ = some (.int .i64 b3) := hB14.out.cell 3
  have hB14_1_4 : z1.cell? ⟨p14, 4, none⟩ = some (.string b4) := hB14.out.cell 4
  have hB14_1_5 : z1.cell? ⟨p14, 5, none⟩ = some (.string b5) := hB14.out.cell 5
  have hB14_1_6 : z1.cell? ⟨p14, 6, none⟩ = some (.int .i64 b6) := hB14.out.cell 6
  have hB14_1_7 : z1.cell? ⟨p14, 7, none⟩ = some (.int .i64 b7) := hB14.out.cell 7
  have hB17_1_0 : z1.cell? ⟨p17, 0, none⟩ = some (.int .i64 p0) := hB17.out.cell 0
  have hB17_1_1 : z1.cell? ⟨p17, 1, none⟩ = some (.int .i64 p1) := hB17.out.cell 1
  have hB17_1_2 : z1.cell? ⟨p17, 2, none⟩ = some (.int .i64 p2) := hB17.out.cell 2
  have hB17_1_3 : z1.cell? ⟨p17, 3, none⟩ = some (.int .i64 p3) := hB17.out.cell 3
  have hB17_1_4 : z1.cell? ⟨p17, 4, none⟩ = some (.string p4) := hB17.out.cell 4
  have hB17_1_5 : z1.cell? ⟨p17, 5, none⟩ = some (.string p5) := hB17.out.cell 5
  have hB17_1_6 : z1.cell? ⟨p17, 6, none⟩ = some (.int .i64 p6) := hB17.out.cell 6
  have hB17_1_7 : z1.cell? ⟨p17, 7, none⟩ = some (.int .i64 p7) := hB17.out.cell 7
  go_wp2_with fail
  (with_reducible refine (KB.out _).mono ?_); rintro e z2 ⟨rfl, g⟩
  have k2 := k1.trans (g.mono k1.size)
  have BW := Lib.hid (BW.out.below g BW.out.lt)
  have hB11 := Lib.hid (hB11.out.below g hB11.out.lt)
  have hB14 := Lib.hid (hB14.out.below g hB14.out.lt)
  have hB17 := Lib.hid (hB17.out.below g hB17.out.lt)
  clear g k1 BW_1_0 BW_1_1 BW_1_2 BW_1_3 BW_1_4 BW_1_5 BW_1_6 BW_1_7 hB11_1_0 hB11_1_1 hB11_1_2 hB11_1_3 hB11_1_4 hB11_1_5 hB11_1_6 hB11_1_7 hB14_1_0 hB14_1_1 hB14_1_2 hB14_1_3 hB14_1_4 hB14_1_5 hB14_1_6 hB14_1_7 hB17_1_0 hB17_1_1 hB17_1_2 hB17_1_3 hB17_1_4 hB17_1_5 hB17_1_6 hB17_1_7
  have BW_2_0 : z2.cell? ⟨w3.heap.size, 0, none⟩ = some (.int .i64 p0) := BW.out.cell 0
  have BW_2_1 : z2.cell? ⟨w3.heap.size, 1, none⟩ = some (.int .i64 p1) := BW.out.cell 1
  have BW_2_2 : z2.cell? ⟨w3.heap.size, 2, none⟩ = some (.int .i64 p2) := BW.out.cell 2
  have BW_2_3 : z2.cell? ⟨w3.heap.size, 3, none⟩ = some (.int .i64 p3) := BW.out.cell 3
  have BW_2_4 : z2.cell? ⟨w3.heap.size, 4, none⟩ = some (.string p4) := BW.out.cell 4
  have BW_2_5 : z2.cell? ⟨w3.heap.size, 5, none⟩ = some (.string p5) := BW.out.cell 5
  have BW_2_6 : z2.cell? ⟨w3.heap.size, 6, none⟩ = some (.int .i64 p6) := BW.out.cell 6
  have BW_2_7 : z2.cell? ⟨w3.heap.size, 7, none⟩ = some (.int .i64 p7) := BW.out.cell 7
  have hB11_2_0 : z2.cell? ⟨p11, 0, none⟩ = some (.int .i64 a0) := hB11.out.cell 0
  have hB11_2_1 : z2.cell? ⟨p11, 1, none⟩ = some (.int .i64 a1) := hB11.out.cell 1
  have hB11_2_2 : z2.cell? ⟨p11, 2, none⟩ = some (.int .i64 a2) := hB11.out.cell 2
  have hB11_2_3 : z2.cell? ⟨p11, 3, none⟩ = some (.int .i64 a3) := hB11.out.cell 3
  have hB11_2_4 : z2.cell? ⟨p11, 4, none⟩ = some (.string a4) := hB11.out.cell 4
  have hB11_2_5 : z2.cell? ⟨p11, 5, none⟩ = some (.string a5) := hB11.out.cell 5
  have hB11_2_6 : z2.cell? ⟨p11, 6, none⟩ = some (.int .i64 a6) := hB11.out.cell 6
  have hB11_2_7 : z2.cell? ⟨p11, 7, none⟩ = some (.int .i64 a7) := hB11.out.cell 7
  have hB14_2_0 : z2.cell? ⟨p14, 0, none⟩ = some (.int .i64 b0) := hB14.out.cell 0
  have hB14_2_1 : z2.cell? ⟨p14, 1, none⟩ = some (.int .i64 b1) := hB14.out.cell 1
  have hB14_2_2 : z2.cell? ⟨p14, 2, none⟩ = some (.int .i64 b2) := hB14.out.cell 2
  have hB14_2_3 : z2.cell? ⟨p14, 3, none⟩ = some (.int .i64 b3) := hB14.out.cell 3
  have hB14_2_4 : z2.cell? ⟨p14, 4, none⟩ = some (.string b4) := hB14.out.cell 4
  have hB14_2_5 : z2.cell? ⟨p14, 5, none⟩ = some (.string b5) := hB14.out.cell 5
  have hB14_2_6 : z2.cell? ⟨p14, 6, none⟩ = some (.int .i64 b6) := hB14.out.cell 6
  have hB14_2_7 : z2.cell? ⟨p14, 7, none⟩ = some (.int .i64 b7) := hB14.out.cell 7
  have hB17_2_0 : z2.cell? ⟨p17, 0, none⟩ = some (.int .i64 p0) := hB17.out.cell 0
  have hB17_2_1 : z2.cell? ⟨p17, 1, none⟩ = some (.int .i64 p1) := hB17.out.cell 1
  have hB17_2_2 : z2.cell? ⟨p17, 2, none⟩ = some (.int .i64 p2) := hB17.out.cell 2
  have hB17_2_3 : z2.cell? ⟨p17, 3, none⟩ = some (.int .i64 p3) := hB17.out.cell 3
  have hB17_2_4 : z2.cell? ⟨p17, 4, none⟩ = some (.string p4) := hB17.out.cell 4
  have hB17_2_5 : z2.cell? ⟨p17, 5, none⟩ = some (.string p5) := hB17.out.cell 5
  have hB17_2_6 : z2.cell? ⟨p17, 6, none⟩ = some (.int .i64 p6) := hB17.out.cell 6
  have hB17_2_7 : z2.cell? ⟨p17, 7, none⟩ = some (.int .i64 p7) := hB17.out.cell 7
  go_wp2_with fail
  (with_reducible refine (KW.out _).mono ?_); rintro e z3 ⟨rfl, g⟩
  have k3 := k2.trans (g.mono k2.size)
  have BW := Lib.hid (BW.out.below g BW.out.lt)
  have hB11 := Lib.hid (hB11.out.below g hB11.out.lt)
  have hB14 := Lib.hid (hB14.out.below g hB14.out.lt)
  have hB17 := Lib.hid (hB17.out.below g hB17.out.lt)
  clear g k2 BW_2_0 BW_2_1 BW_2_2 BW_2_3 BW_2_4 BW_2_5 BW_2_6 BW_2_7 hB11_2_0 hB11_2_1 hB11_2_2 hB11_2_3 hB11_2_4 hB11_2_5 hB11_2_6 hB11_2_7 hB14_2_0 hB14_2_1 hB14_2_2 hB14_2_3 hB14_2_4 hB14_2_5 hB14_2_6 hB14_2_7 hB17_2_0 hB17_2_1 hB17_2_2 hB17_2_3 hB17_2_4 hB17_2_5 hB17_2_6 hB17_2_7
  have BW_3_0 : z3.cell? ⟨w3.heap.size, 0, none⟩ = some (.int .i64 p0) := BW.out.cell 0
  have BW_3_1 : z3.cell? ⟨w3.heap.size, 1, none⟩ = some (.int .i64 p1) := BW.out.cell 1
  have BW_3_2 : z3.cell? ⟨w3.heap.size, 2, none⟩ = some (.int .i64 p2) := BW.out.cell 2
  have BW_3_3 : z3.cell? ⟨w3.heap.size, 3, none⟩ = some (.int .i64 p3) := BW.out.cell 3
  have BW_3_4 : z3.cell? ⟨w3.heap.size, 4, none⟩ = some (.string p4) := BW.out.cell 4
  have BW_3_5 : z3.cell? ⟨w3.heap.size, 5, none⟩ = some (.string p5) := BW.out.cell 5
  have BW_3_6 : z3.cell? ⟨w3.heap.size, 6, none⟩ = some (.int .i64 p6) := BW.out.cell 6
  have BW_3_7 : z3.cell? ⟨w3.heap.size, 7, none⟩ = some (.int .i64 p7) := BW.out.cell 7
  have hB11_3_0 : z3.cell? ⟨p11, 0, none⟩ = some (.int .i64 a0) := hB11.out.cell 0
  have hB11_3_1 : z3.cell? ⟨p11, 1, none⟩ = some (.int .i64 a1) := hB11.out.cell 1
  have hB11_3_2 : z3.cell? ⟨p11, 2, none⟩ = some (.int .i64 a2) := hB11.out.cell 2
  have hB11_3_3 : z3.cell? ⟨p11, 3, none⟩ = some (.int .i64 a3) := hB11.out.cell 3
  have hB11_3_4 : z3.cell? ⟨p11, 4, none⟩ = some (.string a4) := hB11.out.cell 4
  have hB11_3_5 : z3.cell? ⟨p11, 5, none⟩ = some (.string a5) := hB11.out.cell 5
  have hB11_3_6 : z3.cell? ⟨p11, 6, none⟩ = some (.int .i64 a6) := hB11.out.cell 6
  have hB11_3_7 : z3.cell? ⟨p11, 7, none⟩ = some (.int .i64 a7) := hB11.out.cell 7
  have hB14_3_0 : z3.cell? ⟨p14, 0, none⟩ = some (.int .i64 b0) := hB14.out.cell 0
  have hB14_3_1 : z3.cell? ⟨p14, 1, none⟩ = some (.int .i64 b1) := hB14.out.cell 1
  have hB14_3_2 : z3.cell? ⟨p14, 2, none⟩ = some (.int .i64 b2) := hB14.out.cell 2
  have hB14_3_3 : z3.cell? ⟨p14, 3, none⟩ = some (.int .i64 b3) := hB14.out.cell 3
  have hB14_3_4 : z3.cell? ⟨p14, 4, none⟩ = some (.string b4) := hB14.out.cell 4
  have hB14_3_5 : z3.cell? ⟨p14, 5, none⟩ = some (.string b5) := hB14.out.cell 5
  have hB14_3_6 : z3.cell? ⟨p14, 6, none⟩ = some (.int .i64 b6) := hB14.out.cell 6
  have hB14_3_7 : z3.cell? ⟨p14, 7, none⟩ = some (.int .i64 b7) := hB14.out.cell 7
  have hB17_3_0 : z3.cell? ⟨p17, 0, none⟩ = some (.int .i64 p0) := hB17.out.cell 0
  have hB17_3_1 : z3.cell? ⟨p17, 1, none⟩ = some (.int .i64 p1) := hB17.out.cell 1
  have hB17_3_2 : z3.cell? ⟨p17, 2, none⟩ = some (.int .i64 p2) := hB17.out.cell 2
  have hB17_3_3 : z3.cell? ⟨p17, 3, none⟩ = some (.int .i64 p3) := hB17.out.cell 3
  have hB17_3_4 : z3.cell? ⟨p17, 4, none⟩ = some (.string p4) := hB17.out.cell 4
  have hB17_3_5 : z3.cell? ⟨p17, 5, none⟩ = some (.string p5) := hB17.out.cell 5
  have hB17_3_6 : z3.cell? ⟨p17, 6, none⟩ = some (.int .i64 p6) := hB17.out.cell 6
  have hB17_3_7 : z3.cell? ⟨p17, 7, none⟩ = some (.int .i64 p7) := hB17.out.cell 7
  go_wp2_with fail
  (with_reducible refine (RA.out _).mono ?_); rintro e z4 ⟨rfl, g⟩
  have k4 := k3.trans (g.mono k3.size)
  have BW := Lib.hid (BW.out.below g BW.out.lt)
  have hB11 := Lib.hid (hB11.out.below g hB11.out.lt)
  have hB14 := Lib.hid (hB14.out.below g hB14.out.lt)
  have hB17 := Lib.hid (hB17.out.below g hB17.out.lt)
  clear g k3 BW_3_0 BW_3_1 BW_3_2 BW_3_3 BW_3_4 BW_3_5 BW_3_6 BW_3_7 hB11_3_0 hB11_3_1 hB11_3_2 hB11_3_3 hB11_3_4 hB11_3_5 hB11_3_6 hB11_3_7 hB14_3_0 hB14_3_1 hB14_3_2 hB14_3_3 hB14_3_4 hB14_3_5 hB14_3_6 hB14_3_7 hB17_3_0 hB17_3_1 hB17_3_2 hB17_3_3 hB17_3_4 hB17_3_5 hB17_3_6 hB17_3_7
  have BW_4_0 : z4.cell? ⟨w3.heap.size, 0, none⟩ = some (.int .i64 p0) := BW.out.cell 0
  have BW_4_1 : z4.cell? ⟨w3.heap.size, 1, none⟩ = some (.int .i64 p1) := BW.out.cell 1
  have BW_4_2 : z4.cell? ⟨w3.heap.size, 2, none⟩ = some (.int .i64 p2) := BW.out.cell 2
  have BW_4_3 : z4.cell? ⟨w3.heap.size, 3, none⟩ = some (.int .i64 p3) := BW.out.cell 3
  have BW_4_4 : z4.cell? ⟨w3.heap.size, 4, none⟩ = some (.string p4) := BW.out.cell 4
  have BW_4_5 : z4.cell? ⟨w3.heap.size, 5, none⟩ = some (.string p5) := BW.out.cell 5
  have BW_4_6 : z4.cell? ⟨w3.heap.size, 6, none⟩ = some (.int .i64 p6) := BW.out.cell 6
  have BW_4_7 : z4.cell? ⟨w3.heap.size, 7, none⟩ = some (.int .i64 p7) := BW.out.cell 7
  have hB11_4_0 : z4.cell? ⟨p11, 0, none⟩ = some (.int .i64 a0) := hB11.out.cell 0
  have hB11_4_1 : z4.cell? ⟨p11, 1, none⟩ = some (.int .i64 a1) := hB11.out.cell 1
  have hB11_4_2 : z4.cell? ⟨p11, 2, none⟩ = some (.int .i64 a2) := hB11.out.cell 2
  have hB11_4_3 : z4.cell? ⟨p11, 3, none⟩ = some (.int .i64 a3) := hB11.out.cell 3
  have hB11_4_4 : z4.cell? ⟨p11, 4, none⟩ = some (.string a4) := hB11.out.cell 4
  have hB11_4_5 : z4.cell? ⟨p11, 5, none⟩ = some (.string a5) := hB11.out.cell 5
  have hB11_4_6 : z4.cell? ⟨p11, 6, none⟩ = some (.int .i64 a6) := hB11.out.cell 6
  have hB11_4_7 : z4.cell? ⟨p11, 7, none⟩ = some (.int .i64 a7) := hB11.out.cell 7
  have hB14_4_0 : z4.cell? ⟨p14, 0, none⟩ = some (.int .i64 b0) := hB14.out.cell 0
  have hB14_4_1 : z4.cell? ⟨p14, 1, none⟩ = some (.int .i64 b1) := hB14.out.cell 1
  have hB14_4_2 : z4.cell? ⟨p14, 2, none⟩ = some (.int .i64 b2) := hB14.out.cell 2
  have hB14_4_3 : z4.cell? ⟨p14, 3, none⟩ = some (.int .i64 b3) := hB14.out.cell 3
  have hB14_4_4 : z4.cell? ⟨p14, 4, none⟩ = some (.string b4) := hB14.out.cell 4
  have hB14_4_5 : z4.cell? ⟨p14, 5, none⟩ = some (.string b5) := hB14.out.cell 5
  have hB14_4_6 : z4.cell? ⟨p14, 6, none⟩ = some (.int .i64 b6) := hB14.out.cell 6
  have hB14_4_7 : z4.cell? ⟨p14, 7, none⟩ = some (.int .i64 b7) := hB14.out.cell 7
  have hB17_4_0 : z4.cell? ⟨p17, 0, none⟩ = some (.int .i64 p0) := hB17.out.cell 0
  have hB17_4_1 : z4.cell? ⟨p17, 1, none⟩ = some (.int .i64 p1) := hB17.out.cell 1
  have hB17_4_2 : z4.cell? ⟨p17, 2, none⟩ = some (.int .i64 p2) := hB17.out.cell 2
  have hB17_4_3 : z4.cell? ⟨p17, 3, none⟩ = some (.int .i64 p3) := hB17.out.cell 3
  have hB17_4_4 : z4.cell? ⟨p17, 4, none⟩ = some (.string p4) := hB17.out.cell 4
  have hB17_4_5 : z4.cell? ⟨p17, 5, none⟩ = some (.string p5) := hB17.out.cell 5
  have hB17_4_6 : z4.cell? ⟨p17, 6, none⟩ = some (.int .i64 p6) := hB17.out.cell 6
  have hB17_4_7 : z4.cell? ⟨p17, 7, none⟩ = some (.int .i64 p7) := hB17.out.cell 7
  go_wp2_with fail
  (with_reducible refine (RB.out _).mono ?_); rintro e z5 ⟨rfl, g⟩
  have k5 := k4.trans (g.mono k4.size)
  have BW := Lib.hid (BW.out.below g BW.out.lt)
  have hB11 := Lib.hid (hB11.out.below g hB11.out.lt)
  have hB14 := Lib.hid (hB14.out.below g hB14.out.lt)
  have hB17 := Lib.hid (hB17.out.below g hB17.out.lt)
  clear g k4 BW_4_0 BW_4_1 BW_4_2 BW_4_3 BW_4_4 BW_4_5 BW_4_6 BW_4_7 hB11_4_0 hB11_4_1 hB11_4_2 hB11_4_3 hB11_4_4 hB11_4_5 hB11_4_6 hB11_4_7 hB14_4_0 hB14_4_1 hB14_4_2 hB14_4_3 hB14_4_4 hB14_4_5 hB14_4_6 hB14_4_7 hB17_4_0 hB17_4_1 hB17_4_2 hB17_4_3 hB17_4_4 hB17_4_5 hB17_4_6 hB17_4_7
  have BW_5_0 : z5.cell? ⟨w3.heap.size, 0, none⟩ = some (.int .i64 p0) := BW.out.cell 0
  have BW_5_1 : z5.cell? ⟨w3.heap.size, 1, none⟩ = some (.int .i64 p1) := BW.out.cell 1
  have BW_5_2 : z5.cell? ⟨w3.heap.size, 2, none⟩ = some (.int .i64 p2) := BW.out.cell 2
  have BW_5_3 : z5.cell? ⟨w3.heap.size, 3, none⟩ = some (.int .i64 p3) := BW.out.cell 3
  have BW_5_4 : z5.cell? ⟨w3.heap.size, 4, none⟩ = some (.string p4) := BW.out.cell 4
  have BW_5_5 : z5.cell? ⟨w3.heap.size, 5, none⟩ = some (.string p5) := BW.out.cell 5
  have BW_5_6 : z5.cell? ⟨w3.heap.size, 6, none⟩ = some (.int .i64 p6) := BW.out.cell 6
  have BW_5_7 : z5.cell? ⟨w3.heap.size, 7, none⟩ = some (.int .i64 p7) := BW.out.cell 7
  have hB11_5_0 : z5.cell? ⟨p11, 0, none⟩ = some (.int .i64 a0) := hB11.out.cell 0
  have hB11_5_1 : z5.cell? ⟨p11, 1, none⟩ = some (.int .i64 a1) := hB11.out.cell 1
  have hB11_5_2 : z5.cell? ⟨p11, 2, none⟩ = some (.int .i64 a2) := hB11.out.cell 2
  have hB11_5_3 : z5.cell? ⟨p11, 3, none⟩ = some (.int .i64 a3) := hB11.out.cell 3
  have hB11_5_4 : z5.cell? ⟨p11, 4, none⟩ = some (.string a4) := hB11.out.cell 4
  have hB11_5_5 : z5.cell? ⟨p11, 5, none⟩ = some (.string a5) := hB11.out.cell 5
  have hB11_5_6 : z5.cell? ⟨p11, 6, none⟩ = some (.int .i64 a6) := hB11.out.cell 6
  have hB11_5_7 : z5.cell? ⟨p11, 7, none⟩ = some (.int .i64 a7) := hB11.out.cell 7
  have hB14_5_0 : z5.cell? ⟨p14, 0, none⟩ = some (.int .i64 b0) := hB14.out.cell 0
  have hB14_5_1 : z5.cell? ⟨p14, 1, none⟩ = some (.int .i64 b1) := hB14.out.cell 1
  have hB14_5_2 : z5.cell? ⟨p14, 2, none⟩ = some (.int .i64 b2) := hB14.out.cell 2
  have hB14_5_3 : z5.cell? ⟨p14, 3, none⟩ = some (.int .i64 b3) := hB14.out.cell 3
  have hB14_5_4 : z5.cell? ⟨p14, 4, none⟩ = some (.string b4) := hB14.out.cell 4
  have hB14_5_5 : z5.cell? ⟨p14, 5, none⟩ = some (.string b5) := hB14.out.cell 5
  have hB14_5_6 : z5.cell? ⟨p14, 6, none⟩ = some (.int .i64 b6) := hB14.out.cell 6
  have hB14_5_7 : z5.cell? ⟨p14, 7, none⟩ = some (.int .i64 b7) := hB14.out.cell 7
  have hB17_5_0 : z5.cell? ⟨p17, 0, none⟩ = some (.int .i64 p0) := hB17.out.cell 0
  have hB17_5_1 : z5.cell? ⟨p17, 1, none⟩ = some (.int .i64 p1) := hB17.out.cell 1
  have hB17_5_2 : z5.cell? ⟨p17, 2, none⟩ = some (.int .i64 p2) := hB17.out.cell 2
  have hB17_5_3 : z5.cell? ⟨p17, 3, none⟩ = some (.int .i64 p3) := hB17.out.cell 3
  have hB17_5_4 : z5.cell? ⟨p17, 4, none⟩ = some (.string p4) := hB17.out.cell 4
  have hB17_5_5 : z5.cell? ⟨p17, 5, none⟩ = some (.string p5) := hB17.out.cell 5
  have hB17_5_6 : z5.cell? ⟨p17, 6, none⟩ = some (.int .i64 p6) := hB17.out.cell 6
  have hB17_5_7 : z5.cell? ⟨p17, 7, none⟩ = some (.int .i64 p7) := hB17.out.cell 7
  have r1 := q1.out
  have r2 := q2.out
  have r3 := q3.out
  have r4 := q4.out
  have r7 := q7.out
  have r8 : (0 : Int) ≤ (a4.size : Int) := by omega
  have r7n : a4.size ≤ b4.size := by omega
  have r1n : decide (b4.size < a4.size) = false := by simp; omega
  have r1m : ¬ b4.size < a4.size := by omega
  have r4m : ¬ ((rA : Int) < (rB : Int)) := by simpa using r4
  have r4n : ¬ (rA < rB) := by omega
  have r4d : decide (rA < rB) = false := by simp; omega
  have hq4 : (a4.toList == a4.toList) = true := beq_self_eq_true _
  go_wp2_with fail
  rcases Bool.eq_false_or_eq_true (b0 != 8) with hb8 | hb8
  all_goals (
    go_quiet (fail)
    go_wp2_with fail
    (with_reducible refine (OA.out _).mono ?_); rintro e z6 ⟨rfl, g⟩
    have g := (below_drewN (Below.refl z5.heap.size z5) _).trans g
    have k6 := k5.trans (g.mono k5.size)
    have hB11 := Lib.hid (hB11.out.below g hB11.out.lt)
    have hB11_z0 : z6.cell? ⟨p11, 0, none⟩ = some (.int .i64 a0) := hB11.out.cell 0
    have hB11_z1 : z6.cell? ⟨p11, 1, none⟩ = some (.int .i64 a1) := hB11.out.cell 1
    have hB11_z2 : z6.cell? ⟨p11, 2, none⟩ = some (.int .i64 a2) := hB11.out.cell 2
    have hB11_z3 : z6.cell? ⟨p11, 3, none⟩ = some (.int .i64 a3) := hB11.out.cell 3
    have hB11_z4 : z6.cell? ⟨p11, 4, none⟩ = some (.string a4) := hB11.out.cell 4
    have hB11_z5 : z6.cell? ⟨p11, 5, none⟩ = some (.string a5) := hB11.out.cell 5
    have hB11_z6 : z6.cell? ⟨p11, 6, none⟩ = some (.int .i64 a6) := hB11.out.cell 6
    have hB11_z7 : z6.cell? ⟨p11, 7, none⟩ = some (.int .i64 a7) := hB11.out.cell 7
    have hB14 := Lib.hid (hB14.out.below g hB14.out.lt)
    have hB14_z0 : z6.cell? ⟨p14, 0, none⟩ = some (.int .i64 b0) := hB14.out.cell 0
    have hB14_z1 : z6.cell? ⟨p14, 1, none⟩ = some (.int .i64 b1) := hB14.out.cell 1
    have hB14_z2 : z6.cell? ⟨p14, 2, none⟩ = some (.int .i64 b2) := hB14.out.cell 2
    have hB14_z3 : z6.cell? ⟨p14, 3, none⟩ = some (.int .i64 b3) := hB14.out.cell 3
    have hB14_z4 : z6.cell? ⟨p14, 4, none⟩ = some (.string b4) := hB14.out.cell 4
    have hB14_z5 : z6.cell? ⟨p14, 5, none⟩ = some (.string b5) := hB14.out.cell 5
    have hB14_z6 : z6.cell? ⟨p14, 6, none⟩ = some (.int .i64 b6) := hB14.out.cell 6
    have hB14_z7 : z6.cell? ⟨p14, 7, none⟩ = some (.int .i64 b7) := hB14.out.cell 7
    clear g k5
    cases ov with
    | false =>
      go_wp2_with fail
      go_ret
      exact ⟨by first | rfl | simp, k6⟩
    | true =>
      obtain ⟨f0, f1, f2, f3, f4, f5, f6, f7, f8⟩ := fO.out rfl
      subst f0 f1 f2 f3 f4 f5 f6 f7
      have hj0 : (J == 0) = true := by rw [f8]; rfl
      go_wp2_with fail
      go_ret
      exact ⟨by first | rfl | simp, k6⟩)
end Go.Proofs.YtkbihipgnlglbaaGreatDoor
