/-
  FramingWrites, the law.
-/
import Derived.Test.YtpdohlnobbimaaaDoorFrA
namespace Go.Proofs.YtpdohlnobbimaaaDoor
open Go.RowKit

set_option maxRecDepth 100000 in
set_option maxHeartbeats 16000000 in
theorem FramingWrites_true (K n : Int) (s : ByteArray) (got : Int) (w : World) (htab : Tabs w) :
    Calls Tryd.prog 11 #[.agg #[.int .i64 K, .int .i64 n], .string s, .int .i64 got] w fun e w' => e = .returned (.bool true) ∧ Below w.heap.size w w' := by
  have hb0 : Below w.heap.size w (w.alloc (.cells #[.int .i64 K, .int .i64 n] 48)) := (Below.refl _ _).alloc (Nat.le_refl _) _
  have m0 := Blk.new w 48 #[.int .i64 K, .int .i64 n]
  have TB := Lib.hid (fun X (h : Below w.heap.size w X) => htab.below h)
  clear htab
  by_cases hs : 2060 < s.size
  · have d0 : decide ((2060 : Int) < (s.size : Int)) = true := by simp; omega
    have AW := Lib.hid (awake09 _ (TB.out _ hb0))
    have HB := Lib.hid hb0
    clear hb0 m0
    go_enter Tryd.func11, Tryd.ntmps11
    go_wp2_with fail
    (with_reducible refine (AW.out).mono ?_); rintro e w1 ⟨rfl, g1⟩
    have h1 := HB.out.trans (g1.mono HB.out.size)
    go_wp2_with fail
    go_ret
    exact ⟨rfl, h1⟩
  have d0 : decide ((2060 : Int) < (s.size : Int)) = false := by simp; omega
  have c1 := fun w ht => pFields K n w ht
  have c2 := rFields K n
  have c3 := pCheck K n
  have c4 := rCheck K n
  have c5 := fun w ht => pBytes K n s (by omega) w ht
  have c6 := fun w => rBytes K n s (by omega) w
  have c7 := pLeft K n got
  have c8 := rLeft K n got
  unfold FldsPost9 at c1 c2
  have hFl : (fieldsT K n).1.length ≤ 1 := by
    unfold fieldsT
    split
    · simp
    · split
      · simp
      · split <;> simp
  obtain ⟨⟨FL, E⟩, hF⟩ : ∃ z, fieldsT K n = z := ⟨_, rfl⟩
  obtain ⟨⟨BT, EB⟩, hBT⟩ : ∃ z, bytesT K n s.data.toList = z := ⟨_, rfl⟩
  obtain ⟨⟨LT, EL⟩, hLT⟩ : ∃ z, leftT K n got = z := ⟨_, rfl⟩
  obtain ⟨CK, hCK⟩ : ∃ z, ckT K n = z := ⟨_, rfl⟩
  rw [hF] at c1 c2 hFl
  rw [hCK] at c3 c4
  rw [hBT] at c5 c6
  rw [hLT] at c7 c8
  simp only at c1 c2 c5 c6 c7 c8 hFl
  obtain ⟨bt, hbt⟩ : ∃ z, bs BT = z := ⟨_, rfl⟩
  rw [hbt] at c5 c6
  have C1 := Lib.hid c1
  have C2 := Lib.hid c2
  have C3 := Lib.hid c3
  have C4 := Lib.hid c4
  have C5 := Lib.hid c5
  have C6 := Lib.hid c6
  have C7 := Lib.hid c7
  have C8 := Lib.hid c8
  have HB := Lib.hid hb0
  have F1 := Lib.hid m0
  clear c1 c2 c3 c4 c5 c6 c7 c8 hF hBT hLT hCK hb0 m0 hbt
  obtain ⟨W1, hW1⟩ : ∃ W1, w.alloc (.cells #[.int .i64 K, .int .i64 n] 48) = W1 := ⟨_, rfl⟩
  rw [hW1] at HB F1
  have h0 := HB.out
  have p0 : W1.cell? ⟨w.heap.size, 0, none⟩ = some (.int .i64 K) := F1.out.cell 0
  have p1 : W1.cell? ⟨w.heap.size, 1, none⟩ = some (.int .i64 n) := F1.out.cell 1
  clear HB
  go_enter Tryd.func11, Tryd.ntmps11
  try rw [hW1]
  go_wp2_with fail
  (with_reducible refine (C1.out _ (TB.out _ h0)).mono ?_); rintro e w1 ⟨A1, q1, rfl, _, hr, g⟩
  clear hW1 p0 p1
  have h1 := h0.trans (g.mono h0.size)
  have F1 := Lib.hid (F1.out.below g F1.out.lt)
  have L1 := Lib.hid hr
  clear hr g h0
  have p0 : w1.cell? ⟨w.heap.size, 0, none⟩ = some (.int .i64 K) := F1.out.cell 0
  have p1 : w1.cell? ⟨w.heap.size, 1, none⟩ = some (.int .i64 n) := F1.out.cell 1
  go_wp2_with fail
  (with_reducible refine (C2.out _).mono ?_); rintro e w2 ⟨A2, q2, rfl, _, hr, g⟩
  clear p0 p1
  have h2 := h1.trans (g.mono h1.size)
  have F1 := Lib.hid (F1.out.below g F1.out.lt)
  have L1 := Lib.hid ((L1.out.below g).more g.size)
  have L2 := Lib.hid hr
  clear hr
  clear g h1
  have SS : ∀ X, Below w2.heap.size w2 X → (X.cell? ⟨w.heap.size, 0, none⟩ = some (.int .i64 K) ∧ X.cell? ⟨w.heap.size, 1, none⟩ = some (.int .i64 n)) := fun X hX => by
    have k := F1.out.below hX F1.out.lt
    exact ⟨k.cell 0, k.cell 1⟩
  have KF : Hid (∀ X, Hid (Below w2.heap.size w2 X) → Calls Tryd.prog 21 #[.slice A1 FL.length q1, .slice A2 FL.length q2] X fun e w' => e = .returned (.bool true) ∧ Hid (Below w2.heap.size w2 w') ∧ (w'.cell? ⟨w.heap.size, 0, none⟩ = some (.int .i64 K) ∧ w'.cell? ⟨w.heap.size, 1, none⟩ = some (.int .i64 n))) := hide fun X hX => by
    have c := SameFields_any A1 A2 FL.length FL.length q1 q2 FL FL X ((L1.out.below hX.out).more hX.out.size) ((L2.out.below hX.out).more hX.out.size) (by omega) (by omega)
    rw [decide_eq_true rfl] at c
    refine c.mono ?_
    rintro e w' ⟨he, m, rfl⟩
    exact ⟨he, below_drewN hX.out m, SS _ (below_drewN hX.out m)⟩
  have KP : Hid (∀ X, Hid (Below w2.heap.size w2 X) → Calls Tryd.prog 28 #[.agg #[.int .i64 K, .int .i64 n]] X fun e w' => e = .returned (.int .i64 (CK : Nat)) ∧ Hid (Below w2.heap.size w2 w') ∧ (w'.cell? ⟨w.heap.size, 0, none⟩ = some (.int .i64 K) ∧ w'.cell? ⟨w.heap.size, 1, none⟩ = some (.int .i64 n))) := hide fun X hX => (C3.out X).mono fun e w' ⟨he, hb⟩ => ⟨he, hide (hX.out.trans (hb.mono hX.out.size)), SS _ (hX.out.trans (hb.mono hX.out.size))⟩
  have KR : Hid (∀ X, Hid (Below w2.heap.size w2 X) → Calls Tryd.prog 46 #[.agg #[.int .i64 K, .int .i64 n]] X fun e w' => e = .returned (.int .i64 (CK : Nat)) ∧ Hid (Below w2.heap.size w2 w') ∧ (w'.cell? ⟨w.heap.size, 0, none⟩ = some (.int .i64 K) ∧ w'.cell? ⟨w.heap.size, 1, none⟩ = some (.int .i64 n))) := hide fun X hX => (C4.out X).mono fun e w' ⟨he, hb⟩ => ⟨he, hide (hX.out.trans (hb.mono hX.out.size)), SS _ (hX.out.trans (hb.mono hX.out.size))⟩
  have HD0 : Hid (Below w2.heap.size w2 w2.drew) := hide (Below.refl _ _).drew
  obtain ⟨x0, x1⟩ := SS _ (Below.refl _ _)
  have y0 : w2.drew.cell? ⟨w.heap.size, 0, none⟩ = some (.int .i64 K) := x0
  have y1 : w2.drew.cell? ⟨w.heap.size, 1, none⟩ = some (.int .i64 n) := x1
  have e1 : ((E : Int) != (E : Int)) = false := by simp
  have e2 : ((CK : Int) != (CK : Int)) = false := by simp
  have HSS := Lib.hid SS
  clear SS C3 C4 L1 L2
  go_wp2_with fail
  go_region_held3 (fun w' => w'.cell? ⟨w.heap.size, 0, none⟩ = some (.int .i64 K) ∧ w'.cell? ⟨w.heap.size, 1, none⟩ = some (.int .i64 n)) (go_keep)
      (first
        | (go_at_call 21; (with_reducible refine (KF.out _ (by assumption)).mono ?_); rintro r va ⟨rfl, hva, va0, va1⟩)
        | (go_at_call 28; (with_reducible refine (KP.out _ (by assumption)).mono ?_); rintro r vb ⟨rfl, hvb, vb0, vb1⟩)
        | (go_at_call 46; (with_reducible refine (KR.out _ (by assumption)).mono ?_); rintro r vc ⟨rfl, hvc, vc0, vc1⟩))
  have g := hvc.out
  clear KF KP KR HD0 HSS x0 x1 y0 y1 va0 va1 vb0 vb1 vc0 vc1 hva hvb hvc e1 e2
  rename World => w3
  have h3 := h2.trans (g.mono h2.size)
  have F1 := Lib.hid (F1.out.below g F1.out.lt)
  clear g h2
  have p0 : w3.cell? ⟨w.heap.size, 0, none⟩ = some (.int .i64 K) := F1.out.cell 0
  have p1 : w3.cell? ⟨w.heap.size, 1, none⟩ = some (.int .i64 n) := F1.out.cell 1
  go_wp2_with fail
  (with_reducible refine (C5.out _ (TB.out _ h3)).mono ?_); rintro e w4 ⟨rfl, g⟩
  clear p0 p1
  have h4 := h3.trans (g.mono h3.size)
  have F1 := Lib.hid (F1.out.below g F1.out.lt)
  clear g h3
  have p0 : w4.cell? ⟨w.heap.size, 0, none⟩ = some (.int .i64 K) := F1.out.cell 0
  have p1 : w4.cell? ⟨w.heap.size, 1, none⟩ = some (.int .i64 n) := F1.out.cell 1
  go_wp2_with fail
  (with_reducible refine (C6.out _).mono ?_); rintro e w5 ⟨rfl, g⟩
  clear p0 p1
  have h5 := h4.trans (g.mono h4.size)
  have F1 := Lib.hid (F1.out.below g F1.out.lt)
  clear g h4
  have p0 : w5.cell? ⟨w.heap.size, 0, none⟩ = some (.int .i64 K) := F1.out.cell 0
  have p1 : w5.cell? ⟨w.heap.size, 1, none⟩ = some (.int .i64 n) := F1.out.cell 1
  go_wp2_with fail
  (with_reducible refine (C7.out _).mono ?_); rintro e w6 ⟨rfl, g⟩
  clear p0 p1
  have h6 := h5.trans (g.mono h5.size)
  have F1 := Lib.hid (F1.out.below g F1.out.lt)
  clear g h5
  have p0 : w6.cell? ⟨w.heap.size, 0, none⟩ = some (.int .i64 K) := F1.out.cell 0
  have p1 : w6.cell? ⟨w.heap.size, 1, none⟩ = some (.int .i64 n) := F1.out.cell 1
  go_wp2_with fail
  (with_reducible refine (C8.out _).mono ?_); rintro e w7 ⟨rfl, g⟩
  clear p0 p1
  have h7 := h6.trans (g.mono h6.size)
  have F1 := Lib.hid (F1.out.below g F1.out.lt)
  clear g h6
  have AW := Lib.hid (awake09 w7 (TB.out _ h7))
  have e1 : (bt.toList == bt.toList) = true := by simp
  have e2 : ((EB : Int) == (EB : Int)) = true := by simp
  have e3 : (LT == LT) = true := by simp
  have e4 : ((EL : Int) == (EL : Int)) = true := by simp
  go_wp2_with fail
  (with_reducible refine (AW.out).mono ?_); rintro e w8 ⟨rfl, g⟩
  have h8 := h7.trans (g.mono h7.size)
  have F1 := Lib.hid (F1.out.below g F1.out.lt)
  clear g h7
  go_wp2_with fail
  go_ret
  exact ⟨rfl, h8⟩
end Go.Proofs.YtpdohlnobbimaaaDoor
