/-
  Handlers: Body of the reference.
-/
import Derived.Test.YthhlnpfcpgfcfaaGreatDoorHa6
namespace Go.Proofs.YthhlnpfcpgfcfaaGreatDoor
open Go.RowKit

theorem plain_eq (x y : List UInt8) : plainT (x ++ [61] ++ y) = plainT x ++ [61] ++ plainT y := by
  rw [plainT_app, plainT_app]; rfl
set_option maxRecDepth 100000 in
set_option maxHeartbeats 16000000 in
theorem rBody (f : FoundP) (r : ReqP) (S N V FA : Option Addr) (cs cn cv fn fc : Nat) (host : ByteArray) (w : World) (hl : LightF f r)
    (hN : Reads w w.heap.size 1 N f.names.length (strs f.names)) (hV : Reads w w.heap.size 1 V f.vals.length (strs f.vals)) :
    Calls Tryz.prog 52 #[fndV f S N V cs cn cv, reqV r host FA fn fc] w fun e w' => e = .returned (.tuple #[.string (bs (bodyT f r).1), .int .i64 ((bodyT f r).2 : Nat)]) ∧ Below w.heap.size w w' := by
  have b2 : Below w.heap.size w ((w.alloc (.cells (fndC f S N V cs cn cv) 42)).alloc (.cells #[.string (bs r.method), .string (bs r.path), .string (bs r.query), .string host, .slice FA fn fc, .string (bs r.body)] 33)) := ((Below.refl _ _).alloc (Nat.le_refl _) _).alloc (by simp) _
  have kf := (Blk.new w 42 (fndC f S N V cs cn cv)).alloc (.cells #[.string (bs r.method), .string (bs r.path), .string (bs r.query), .string host, .slice FA fn fc, .string (bs r.body)] 33)
  have kr := Blk.new (w.alloc (.cells (fndC f S N V cs cn cv) 42)) 33 #[.string (bs r.method), .string (bs r.path), .string (bs r.query), .string host, .slice FA fn fc, .string (bs r.body)]
  rw [show (w.alloc (.cells (fndC f S N V cs cn cv) 42)).heap.size = w.heap.size + 1 by simp] at kr
  have cC := rCheckF f S N V cs cn cv ((w.alloc (.cells (fndC f S N V cs cn cv) 42)).alloc (.cells #[.string (bs r.method), .string (bs r.path), .string (bs r.query), .string host, .slice FA fn fc, .string (bs r.body)] 33)) hl.fok
  unfold fndC at b2 kf kr cC
  unfold fndV reqV at *
  have CC := Lib.hid cC
  have B2 := Lib.hid b2
  have KF := Lib.hid kf
  have KR := Lib.hid kr
  have HNV := Lib.hid (And.intro hN hV)
  have HL := Lib.hid hl
  clear cC b2 kf kr hN hV hl
  by_cases hc : checkF f = 0
  · rw [hc] at CC
    cases ho : f.ok with
    | false =>
      have hb : bodyT f r = ([], 10) := by unfold bodyT; rw [if_neg (by simp [hc]), if_pos ho]
      rw [hb]
      rw [ho] at CC KF B2 KR
      clear hb ho hc
      go_enter Tryz.func52, Tryz.ntmps52
      go_wp2_with fail
      (with_reducible refine (CC.out).mono ?_); rintro e w1 ⟨rfl, g1⟩
      have k1 := KF.out.below g1 KF.out.lt
      have c0 : w1.cell? ⟨w.heap.size, 0, none⟩ = some (.bool false) := k1.cell 0
      have G := Lib.hid (B2.out.trans (g1.mono B2.out.size))
      clear k1 g1 CC
      go_wp2_with fail
      go_ret2
      exact ⟨rfl, G.out⟩
    | true =>
      obtain ⟨h1, h2, h3⟩ := check_fnd hc ho
      have hb : bodyT f r = if 4096 < (saysT f r).length then ([], 4) else (saysT f r, 0) := by unfold bodyT; rw [if_neg (by simp [hc]), if_neg (by simp [ho])]
      have HB := Lib.hid hb
      rw [ho] at CC KF B2 KR
      obtain ⟨n, hn⟩ : ∃ n, f.names.length = n := ⟨_, rfl⟩
      have hn2 : f.vals.length = n := by rw [← h3, hn]
      rw [hn, hn2] at CC KF B2 KR
      rw [hn] at HNV
      rw [hn2] at HNV
      rw [hn, hn2]
      have hn20 : n ≤ 20 := by rw [← hn]; exact HL.out.names
      have HNL := Lib.hid (And.intro hn (And.intro hn2 h3))
      have z0 := bs_size f.text
      have z1 := bs_size f.rest
      have z2 := bs_size r.method
      have z3 := bs_size r.path
      have z4 := bs_size r.query
      have z5 := bs_size r.body
      have ht := HL.out.text
      have hr := HL.out.rest
      have hm := HL.out.method
      have hp := HL.out.path
      have hq := HL.out.query
      have hbd := HL.out.body
      have hbE := headE_len HL.out
      clear hb ho hc hn hn2 h3
      have hk3 : f.kind = 1 ∨ f.kind = 2 ∨ f.kind = 3 ∨ f.kind = 4 := by omega
      have kc : ∀ X, Below ((w.alloc (.cells #[.bool true, .slice S f.segs.length cs, .int .i64 f.kind, .string (bs f.text), .slice N n cn, .slice V n cv, .string (bs f.rest)] 42)).alloc (.cells #[.string (bs r.method), .string (bs r.path), .string (bs r.query), .string host, .slice FA fn fc, .string (bs r.body)] 33)).heap.size ((w.alloc (.cells #[.bool true, .slice S f.segs.length cs, .int .i64 f.kind, .string (bs f.text), .slice N n cn, .slice V n cv, .string (bs f.rest)] 42)).alloc (.cells #[.string (bs r.method), .string (bs r.path), .string (bs r.query), .string host, .slice FA fn fc, .string (bs r.body)] 33)) X →
          Blk X w.heap.size 42 #[.bool true, .slice S f.segs.length cs, .int .i64 f.kind, .string (bs f.text), .slice N n cn, .slice V n cv, .string (bs f.rest)] ∧ Blk X (w.heap.size + 1) 33 #[.string (bs r.method), .string (bs r.path), .string (bs r.query), .string host, .slice FA fn fc, .string (bs r.body)] ∧ Below w.heap.size w X := fun X hX => ⟨KF.out.below hX KF.out.lt, KR.out.below hX KR.out.lt, B2.out.trans (hX.mono B2.out.size)⟩
      have KC := Lib.hid kc
      clear kc KF KR B2 h1 h2
      rcases hk3 with hk3 | hk3 | hk3 | hk3
      · have HS : Hid (saysT f r = f.text) := by
          show _ = _
          unfold saysT; rw [if_pos hk3]
        rw [hk3] at CC KC ⊢
        clear hk3
        go_enter Tryz.func52, Tryz.ntmps52
        go_wp2_with fail
        (with_reducible refine (CC.out).mono ?_); rintro e w1 ⟨rfl, g1⟩
        obtain ⟨k1, k2, g2⟩ := KC.out w1 g1
        have c0 : w1.cell? ⟨w.heap.size, 0, none⟩ = some (.bool true) := k1.cell 0
        have c2 : w1.cell? ⟨w.heap.size, 2, none⟩ = some (.int .i64 1) := k1.cell 2
        have c3 : w1.cell? ⟨w.heap.size, 3, none⟩ = some (.string (bs f.text)) := k1.cell 3
        have c4 : w1.cell? ⟨w.heap.size, 4, none⟩ = some (.slice N n cn) := k1.cell 4
        have c6 : w1.cell? ⟨w.heap.size, 6, none⟩ = some (.string (bs f.rest)) := k1.cell 6
        have d0 : w1.cell? ⟨w.heap.size + 1, 0, none⟩ = some (.string (bs r.method)) := k2.cell 0
        have d1 : w1.cell? ⟨w.heap.size + 1, 1, none⟩ = some (.string (bs r.path)) := k2.cell 1
        have d2 : w1.cell? ⟨w.heap.size + 1, 2, none⟩ = some (.string (bs r.query)) := k2.cell 2
        have d5 : w1.cell? ⟨w.heap.size + 1, 5, none⟩ = some (.string (bs r.body)) := k2.cell 5
        have G1 := Lib.hid g1
        have G := Lib.hid g2
        clear k1 k2 g1 g2 CC
        have hT : ¬ 4096 < f.text.length := by omega
        go_wp2_with fail
        go_ret2
        exact ⟨by rw [HB.out, if_neg (by rw [HS.out]; exact hT), HS.out]; rfl, G.out⟩
      · have HS : Hid (saysT f r = echoT f r) := by
          show _ = _
          unfold saysT; rw [if_neg (by omega), if_pos hk3]
        rw [hk3] at CC KC ⊢
        clear hk3
        have CP := Lib.hid (fun X => rPlain (headE r) X (by omega))
        have hsl := (plainT_len (headE r)).2
        by_cases hqe : r.query = []
        · obtain ⟨m1, m2⟩ := emp_bs hqe
          have hqh : bs r.method ++ ⟨#[32]⟩ ++ bs r.path = bs (headE r) := by
            rw [show (⟨#[32]⟩ : ByteArray) = bs [32] from rfl, bs_app, bs_app]; unfold headE; rw [if_pos hqe]; simp
          have s1 : ¬ 9223372036854775806 < r.method.length := by omega
          have s2 : ¬ 9223372036854775807 < r.method.length + 1 + r.path.length := by omega
          clear hqe
          go_enter Tryz.func52, Tryz.ntmps52
          go_wp2_with fail
          (with_reducible refine (CC.out).mono ?_); rintro e w1 ⟨rfl, g1⟩
          obtain ⟨k1, k2, g2⟩ := KC.out w1 g1
          have c0 : w1.cell? ⟨w.heap.size, 0, none⟩ = some (.bool true) := k1.cell 0
          have c2 : w1.cell? ⟨w.heap.size, 2, none⟩ = some (.int .i64 2) := k1.cell 2
          have c3 : w1.cell? ⟨w.heap.size, 3, none⟩ = some (.string (bs f.text)) := k1.cell 3
          have c4 : w1.cell? ⟨w.heap.size, 4, none⟩ = some (.slice N n cn) := k1.cell 4
          have c6 : w1.cell? ⟨w.heap.size, 6, none⟩ = some (.string (bs f.rest)) := k1.cell 6
          have d0 : w1.cell? ⟨w.heap.size + 1, 0, none⟩ = some (.string (bs r.method)) := k2.cell 0
          have d1 : w1.cell? ⟨w.heap.size + 1, 1, none⟩ = some (.string (bs r.path)) := k2.cell 1
          have d2 : w1.cell? ⟨w.heap.size + 1, 2, none⟩ = some (.string (bs r.query)) := k2.cell 2
          have d5 : w1.cell? ⟨w.heap.size + 1, 5, none⟩ = some (.string (bs r.body)) := k2.cell 5
          have G1 := Lib.hid g1
          have G := Lib.hid g2
          clear k1 k2 g1 g2 CC
          have hPE := preE_zero f r
          obtain ⟨P, hP⟩ : ∃ P, bs (plainT (headE r)) = P := ⟨_, rfl⟩
          have hPz : P.size ≤ 2706 := by rw [← hP, bs_size]; omega
          have sP : ¬ 9223372036854775806 < P.size := by omega
          rw [hP] at CP
          have hO : P ++ ⟨#[10]⟩ = bs (preE f r 0) := by rw [← hP, show (⟨#[10]⟩ : ByteArray) = bs [10] from rfl, bs_app, ← hPE]
          have HO := Lib.hid hO
          clear hP hPE hO
          go_wp2_with fail
          (with_reducible refine (CP.out _).mono ?_); rintro e w2 ⟨rfl, g2⟩
          have G2 := Lib.hid (G1.out.trans (g2.mono G1.out.size))
          have c4 : w2.cell? ⟨w.heap.size, 4, none⟩ = some (.slice N n cn) := (KC.out _ G2.out).1.cell 4
          clear g2 CP c0 c2 c3 c6 d0 d1 d2 d5 G
          go_wp2_with fail
          rw [HO.out]
          go_loopw [7, 8] (fun o i wr => ∃ k : Nat, i = .int .i64 k ∧ k ≤ n ∧ o = .string (bs (preE f r k)) ∧ Hid (Below w2.heap.size w2 wr)) (fun _ i _ => n - (intOf i).toNat)
          case atStart => exact ⟨0, rfl, by omega, rfl, hide (Below.refl _ _)⟩
          case round =>
            obtain ⟨k, rfl, hkn, rfl, hBw⟩ := hrel
            rename World => wr
            clear c4
            have G3 := Lib.hid (G2.out.trans (hBw.out.mono G2.out.size))
            have c4 : wr.cell? ⟨w.heap.size, 4, none⟩ = some (.slice N n cn) := (KC.out _ G3.out).1.cell 4
            by_cases hlt : k < n
            · have hkN : k < f.names.length := by rw [HNL.out.1]; exact hlt
              have hkV : k < f.vals.length := by rw [HNL.out.2.1]; exact hlt
              have hln := preE_len HL.out k
              have hsu := preE_succ f r k (by rw [HNL.out.1]; exact hlt) (by rw [HNL.out.2.1]; exact hlt)
              obtain ⟨bN, oN, rfl, hbN, cN⟩ := HNV.out.1.text k (by rw [HNL.out.1]; exact hlt)
              obtain ⟨bV, oV, rfl, hbV, cV⟩ := HNV.out.2.text k (by rw [HNL.out.2.1]; exact hlt)
              have hx3 := HL.out.name f.names[k] (List.getElem_mem _)
              have hy3 := HL.out.val f.vals[k] (List.getElem_mem _)
              obtain ⟨x, hx⟩ : ∃ x, f.names[k]'(by rw [HNL.out.1]; exact hlt) = x := ⟨_, rfl⟩
              obtain ⟨y, hy⟩ : ∃ y, f.vals[k]'(by rw [HNL.out.2.1]; exact hlt) = y := ⟨_, rfl⟩
              rw [hx] at cN hx3 hsu
              rw [hy] at cV hy3 hsu
              have kc : ∀ X, Hid (Below wr.heap.size wr X) → X.cell? ⟨w.heap.size, 4, none⟩ = some (.slice (some ⟨bN, oN, none⟩) n cn) ∧ X.cell? ⟨w.heap.size, 5, none⟩ = some (.slice (some ⟨bV, oV, none⟩) n cv) ∧ X.cell? ⟨bN, oN + k, none⟩ = some (.string (bs x)) ∧ X.cell? ⟨bV, oV + k, none⟩ = some (.string (bs y)) := fun X hX => by
                obtain ⟨q1, _, q3⟩ := KC.out X (G3.out.trans (hX.out.mono G3.out.size))
                exact ⟨q1.cell 4, q1.cell 5, (q3.cell (p := ⟨bN, oN + k, none⟩) hbN).trans cN, (q3.cell (p := ⟨bV, oV + k, none⟩) hbV).trans cV⟩
              obtain ⟨p4, p5, pN, pV⟩ := kc wr (hide (Below.refl _ _))
              obtain ⟨X, hX⟩ : ∃ X, bs x = X := ⟨_, rfl⟩
              obtain ⟨Y, hY⟩ : ∃ Y, bs y = Y := ⟨_, rfl⟩
              obtain ⟨O, hO⟩ : ∃ O, bs (preE f r k) = O := ⟨_, rfl⟩
              obtain ⟨R, hR⟩ : ∃ R, bs (plainT (x ++ [61] ++ y)) = R := ⟨_, rfl⟩
              have hXz : X.size ≤ 300 := by rw [← hX, bs_size]; exact hx3
              have hYz : Y.size ≤ 300 := by rw [← hY, bs_size]; exact hy3
              have hOz : O.size ≤ 50000 := by rw [← hO, bs_size]; exact hln
              have hRz : R.size ≤ 1803 := by
                rw [← hR, bs_size]
                have := (plainT_len (x ++ [61] ++ y)).2
                simp only [List.length_append, List.length_cons, List.length_nil] at this
                omega
              have hcat : Hid (O ++ R ++ ⟨#[10]⟩ = bs (preE f r (k + 1))) := by
                show _ = _
                rw [hsu, ← hO, ← hR, show (⟨#[10]⟩ : ByteArray) = bs [10] from rfl, bs_app, bs_app, plain_eq]
                congr 1
                simp
              have kP : ∀ X', Hid (Below wr.heap.size wr X') → Calls Tryz.prog 80 #[.string (X ++ ⟨#[61]⟩ ++ Y)] X' fun e w' => e = .returned (.string R) ∧ Hid (Below wr.heap.size wr w') ∧ w'.cell? ⟨w.heap.size, 4, none⟩ = some (.slice (some ⟨bN, oN, none⟩) n cn) ∧ w'.cell? ⟨w.heap.size, 5, none⟩ = some (.slice (some ⟨bV, oV, none⟩) n cv) ∧ w'.cell? ⟨bN, oN + k, none⟩ = some (.string X) ∧ w'.cell? ⟨bV, oV + k, none⟩ = some (.string Y) := fun X' hX' => by
                have := rPlain (x ++ [61] ++ y) X' (by simp only [List.length_append, List.length_cons, List.length_nil]; omega)
                rw [hR, ← bs_app, ← bs_app, hX, hY, show bs [61] = (⟨#[61]⟩ : ByteArray) from rfl] at this
                refine this.mono fun e w' ⟨he, g⟩ => ?_
                have hg : Hid (Below wr.heap.size wr w') := hide (hX'.out.trans (g.mono hX'.out.size))
                obtain ⟨a1, a2, a3, a4⟩ := kc w' hg
                rw [hX] at a3
                rw [hY] at a4
                exact ⟨he, hg, a1, a2, a3, a4⟩
              rw [hX] at pN
              rw [hY] at pV
              rw [hO]
              have KP := Lib.hid kP
              have hd0 : Hid (Below wr.heap.size wr wr.drew) := hide (Below.refl _ _).drew
              have i0 : (0 : Int) ≤ (k : Int) := by omega
              have i1 : (k : Int) < (n : Int) := by omega
              have s1 : ¬ 9223372036854775806 < X.size := by omega
              have s2 : ¬ 9223372036854775807 < X.size + 1 + Y.size := by omega
              have s5 : ¬ 9223372036854775807 < X.size + 1 := by omega
              have s6 : X.size < 9223372036854775807 := by omega
              have s7 : ¬ 9223372036854775807 ≤ X.size := by omega
              have s8 : ¬ 9223372036854775807 < O.size + R.size + 1 := by omega
              have s9 : O.size + R.size < 9223372036854775807 := by omega
              have s10 : ¬ 9223372036854775807 ≤ O.size + R.size := by omega
              have s3 : ¬ 9223372036854775807 < O.size + R.size := by omega
              have s4 : ¬ 9223372036854775806 < O.size + R.size := by omega
              clear kP kc hsu hln cN cV hx3 hy3 hx hy hbN hbV hkN hkV hX hY hO hR c4
              go_wp2_with fail
              go_region_held3 (fun w' => w'.cell? ⟨w.heap.size, 4, none⟩ = some (.slice (some ⟨bN, oN, none⟩) n cn) ∧ w'.cell? ⟨w.heap.size, 5, none⟩ = some (.slice (some ⟨bV, oV, none⟩) n cv) ∧ w'.cell? ⟨bN, oN + k, none⟩ = some (.string X) ∧ w'.cell? ⟨bV, oV + k, none⟩ = some (.string Y)) (go_keep) (first
                | (go_at_call 80; (with_reducible refine (KP.out _ hd0).mono ?_); rintro e v1 ⟨rfl, h1, q4, q5, qN, qV⟩))
              rw [hcat.out]
              go_wp2_with fail
              go_roundw
              case rel => exact ⟨k + 1, by go_num, by omega, rfl, hide (hBw.out.trans (h1.out.mono hBw.out.size))⟩
              case measure => simp [intOf]; omega
            · obtain rfl : k = n := by omega
              have hall := preE_all f r HNL.out.2.2
              rw [HNL.out.1] at hall
              have HA := Lib.hid hall
              have hzz := bs_size (preE f r k)
              have GF := Lib.hid (KC.out _ G3.out).2.2
              have HS2 : Hid (saysT f r = preE f r k) := by
                show _ = _
                rw [HA.out]; exact HS.out
              clear HS hall
              have HS := HS2
              by_cases hT : 4096 < (preE f r k).length
              · go_wp2_with fail
                go_ret2
                exact ⟨by rw [HB.out, if_pos (by rw [HS.out]; exact hT)]; rfl, GF.out⟩
              · go_wp2_with fail
                go_ret2
                exact ⟨by rw [HB.out, if_neg (by rw [HS.out]; exact hT), HS.out]; rfl, GF.out⟩
        · obtain ⟨m1, m2⟩ := nemp_bs hqe
          have hqh : bs r.method ++ ⟨#[32]⟩ ++ bs r.path ++ ⟨#[63]⟩ ++ bs r.query = bs (headE r) := by
            rw [show (⟨#[32]⟩ : ByteArray) = bs [32] from rfl, show (⟨#[63]⟩ : ByteArray) = bs [63] from rfl, bs_app, bs_app, bs_app, bs_app]; unfold headE; rw [if_neg hqe]; simp
          have s1 : ¬ 9223372036854775806 < r.method.length := by omega
          have s2 : ¬ 9223372036854775807 < r.method.length + 1 + r.path.length := by omega
          have s3 : ¬ 9223372036854775806 < r.method.length + 1 + r.path.length := by omega
          have s4 : ¬ 9223372036854775807 < r.method.length + 1 + r.path.length + 1 + r.query.length := by omega
          clear hqe
          go_enter Tryz.func52, Tryz.ntmps52
          go_wp2_with fail
          (with_reducible refine (CC.out).mono ?_); rintro e w1 ⟨rfl, g1⟩
          obtain ⟨k1, k2, g2⟩ := KC.out w1 g1
          have c0 : w1.cell? ⟨w.heap.size, 0, none⟩ = some (.bool true) := k1.cell 0
          have c2 : w1.cell? ⟨w.heap.size, 2, none⟩ = some (.int .i64 2) := k1.cell 2
          have c3 : w1.cell? ⟨w.heap.size, 3, none⟩ = some (.string (bs f.text)) := k1.cell 3
          have c4 : w1.cell? ⟨w.heap.size, 4, none⟩ = some (.slice N n cn) := k1.cell 4
          have c6 : w1.cell? ⟨w.heap.size, 6, none⟩ = some (.string (bs f.rest)) := k1.cell 6
          have d0 : w1.cell? ⟨w.heap.size + 1, 0, none⟩ = some (.string (bs r.method)) := k2.cell 0
          have d1 : w1.cell? ⟨w.heap.size + 1, 1, none⟩ = some (.string (bs r.path)) := k2.cell 1
          have d2 : w1.cell? ⟨w.heap.size + 1, 2, none⟩ = some (.string (bs r.query)) := k2.cell 2
          have d5 : w1.cell? ⟨w.heap.size + 1, 5, none⟩ = some (.string (bs r.body)) := k2.cell 5
          have G1 := Lib.hid g1
          have G := Lib.hid g2
          clear k1 k2 g1 g2 CC
          have hPE := preE_zero f r
          obtain ⟨P, hP⟩ : ∃ P, bs (plainT (headE r)) = P := ⟨_, rfl⟩
          have hPz : P.size ≤ 2706 := by rw [← hP, bs_size]; omega
          have sP : ¬ 9223372036854775806 < P.size := by omega
          rw [hP] at CP
          have hO : P ++ ⟨#[10]⟩ = bs (preE f r 0) := by rw [← hP, show (⟨#[10]⟩ : ByteArray) = bs [10] from rfl, bs_app, ← hPE]
          have HO := Lib.hid hO
          clear hP hPE hO
          go_wp2_with fail
          (with_reducible refine (CP.out _).mono ?_); rintro e w2 ⟨rfl, g2⟩
          have G2 := Lib.hid (G1.out.trans (g2.mono G1.out.size))
          have c4 : w2.cell? ⟨w.heap.size, 4, none⟩ = some (.slice N n cn) := (KC.out _ G2.out).1.cell 4
          clear g2 CP c0 c2 c3 c6 d0 d1 d2 d5 G
          go_wp2_with fail
          rw [HO.out]
          go_loopw [7, 8] (fun o i wr => ∃ k : Nat, i = .int .i64 k ∧ k ≤ n ∧ o = .string (bs (preE f r k)) ∧ Hid (Below w2.heap.size w2 wr)) (fun _ i _ => n - (intOf i).toNat)
          case atStart => exact ⟨0, rfl, by omega, rfl, hide (Below.refl _ _)⟩
          case round =>
            obtain ⟨k, rfl, hkn, rfl, hBw⟩ := hrel
            rename World => wr
            clear c4
            have G3 := Lib.hid (G2.out.trans (hBw.out.mono G2.out.size))
            have c4 : wr.cell? ⟨w.heap.size, 4, none⟩ = some (.slice N n cn) := (KC.out _ G3.out).1.cell 4
            by_cases hlt : k < n
            · have hkN : k < f.names.length := by rw [HNL.out.1]; exact hlt
              have hkV : k < f.vals.length := by rw [HNL.out.2.1]; exact hlt
              have hln := preE_len HL.out k
              have hsu := preE_succ f r k (by rw [HNL.out.1]; exact hlt) (by rw [HNL.out.2.1]; exact hlt)
              obtain ⟨bN, oN, rfl, hbN, cN⟩ := HNV.out.1.text k (by rw [HNL.out.1]; exact hlt)
              obtain ⟨bV, oV, rfl, hbV, cV⟩ := HNV.out.2.text k (by rw [HNL.out.2.1]; exact hlt)
              have hx3 := HL.out.name f.names[k] (List.getElem_mem _)
              have hy3 := HL.out.val f.vals[k] (List.getElem_mem _)
              obtain ⟨x, hx⟩ : ∃ x, f.names[k]'(by rw [HNL.out.1]; exact hlt) = x := ⟨_, rfl⟩
              obtain ⟨y, hy⟩ : ∃ y, f.vals[k]'(by rw [HNL.out.2.1]; exact hlt) = y := ⟨_, rfl⟩
              rw [hx] at cN hx3 hsu
              rw [hy] at cV hy3 hsu
              have kc : ∀ X, Hid (Below wr.heap.size wr X) → X.cell? ⟨w.heap.size, 4, none⟩ = some (.slice (some ⟨bN, oN, none⟩) n cn) ∧ X.cell? ⟨w.heap.size, 5, none⟩ = some (.slice (some ⟨bV, oV, none⟩) n cv) ∧ X.cell? ⟨bN, oN + k, none⟩ = some (.string (bs x)) ∧ X.cell? ⟨bV, oV + k, none⟩ = some (.string (bs y)) := fun X hX => by
                obtain ⟨q1, _, q3⟩ := KC.out X (G3.out.trans (hX.out.mono G3.out.size))
                exact ⟨q1.cell 4, q1.cell 5, (q3.cell (p := ⟨bN, oN + k, none⟩) hbN).trans cN, (q3.cell (p := ⟨bV, oV + k, none⟩) hbV).trans cV⟩
              obtain ⟨p4, p5, pN, pV⟩ := kc wr (hide (Below.refl _ _))
              obtain ⟨X, hX⟩ : ∃ X, bs x = X := ⟨_, rfl⟩
              obtain ⟨Y, hY⟩ : ∃ Y, bs y = Y := ⟨_, rfl⟩
              obtain ⟨O, hO⟩ : ∃ O, bs (preE f r k) = O := ⟨_, rfl⟩
              obtain ⟨R, hR⟩ : ∃ R, bs (plainT (x ++ [61] ++ y)) = R := ⟨_, rfl⟩
              have hXz : X.size ≤ 300 := by rw [← hX, bs_size]; exact hx3
              have hYz : Y.size ≤ 300 := by rw [← hY, bs_size]; exact hy3
              have hOz : O.size ≤ 50000 := by rw [← hO, bs_size]; exact hln
              have hRz : R.size ≤ 1803 := by
                rw [← hR, bs_size]
                have := (plainT_len (x ++ [61] ++ y)).2
                simp only [List.length_append, List.length_cons, List.length_nil] at this
                omega
              have hcat : Hid (O ++ R ++ ⟨#[10]⟩ = bs (preE f r (k + 1))) := by
                show _ = _
                rw [hsu, ← hO, ← hR, show (⟨#[10]⟩ : ByteArray) = bs [10] from rfl, bs_app, bs_app, plain_eq]
                congr 1
                simp
              have kP : ∀ X', Hid (Below wr.heap.size wr X') → Calls Tryz.prog 80 #[.string (X ++ ⟨#[61]⟩ ++ Y)] X' fun e w' => e = .returned (.string R) ∧ Hid (Below wr.heap.size wr w') ∧ w'.cell? ⟨w.heap.size, 4, none⟩ = some (.slice (some ⟨bN, oN, none⟩) n cn) ∧ w'.cell? ⟨w.heap.size, 5, none⟩ = some (.slice (some ⟨bV, oV, none⟩) n cv) ∧ w'.cell? ⟨bN, oN + k, none⟩ = some (.string X) ∧ w'.cell? ⟨bV, oV + k, none⟩ = some (.string Y) := fun X' hX' => by
                have := rPlain (x ++ [61] ++ y) X' (by simp only [List.length_append, List.length_cons, List.length_nil]; omega)
                rw [hR, ← bs_app, ← bs_app, hX, hY, show bs [61] = (⟨#[61]⟩ : ByteArray) from rfl] at this
                refine this.mono fun e w' ⟨he, g⟩ => ?_
                have hg : Hid (Below wr.heap.size wr w') := hide (hX'.out.trans (g.mono hX'.out.size))
                obtain ⟨a1, a2, a3, a4⟩ := kc w' hg
                rw [hX] at a3
                rw [hY] at a4
                exact ⟨he, hg, a1, a2, a3, a4⟩
              rw [hX] at pN
              rw [hY] at pV
              rw [hO]
              have KP := Lib.hid kP
              have hd0 : Hid (Below wr.heap.size wr wr.drew) := hide (Below.refl _ _).drew
              have i0 : (0 : Int) ≤ (k : Int) := by omega
              have i1 : (k : Int) < (n : Int) := by omega
              have s1 : ¬ 9223372036854775806 < X.size := by omega
              have s2 : ¬ 9223372036854775807 < X.size + 1 + Y.size := by omega
              have s5 : ¬ 9223372036854775807 < X.size + 1 := by omega
              have s6 : X.size < 9223372036854775807 := by omega
              have s7 : ¬ 9223372036854775807 ≤ X.size := by omega
              have s8 : ¬ 9223372036854775807 < O.size + R.size + 1 := by omega
              have s9 : O.size + R.size < 9223372036854775807 := by omega
              have s10 : ¬ 9223372036854775807 ≤ O.size + R.size := by omega
              have s3 : ¬ 9223372036854775807 < O.size + R.size := by omega
              have s4 : ¬ 9223372036854775806 < O.size + R.size := by omega
              clear kP kc hsu hln cN cV hx3 hy3 hx hy hbN hbV hkN hkV hX hY hO hR c4
              go_wp2_with fail
              go_region_held3 (fun w' => w'.cell? ⟨w.heap.size, 4, none⟩ = some (.slice (some ⟨bN, oN, none⟩) n cn) ∧ w'.cell? ⟨w.heap.size, 5, none⟩ = some (.slice (some ⟨bV, oV, none⟩) n cv) ∧ w'.cell? ⟨bN, oN + k, none⟩ = some (.string X) ∧ w'.cell? ⟨bV, oV + k, none⟩ = some (.string Y)) (go_keep) (first
                | (go_at_call 80; (with_reducible refine (KP.out _ hd0).mono ?_); rintro e v1 ⟨rfl, h1, q4, q5, qN, qV⟩))
              rw [hcat.out]
              go_wp2_with fail
              go_roundw
              case rel => exact ⟨k + 1, by go_num, by omega, rfl, hide (hBw.out.trans (h1.out.mono hBw.out.size))⟩
              case measure => simp [intOf]; omega
            · obtain rfl : k = n := by omega
              have hall := preE_all f r HNL.out.2.2
              rw [HNL.out.1] at hall
              have HA := Lib.hid hall
              have hzz := bs_size (preE f r k)
              have GF := Lib.hid (KC.out _ G3.out).2.2
              have HS2 : Hid (saysT f r = preE f r k) := by
                show _ = _
                rw [HA.out]; exact HS.out
              clear HS hall
              have HS := HS2
              by_cases hT : 4096 < (preE f r k).length
              · go_wp2_with fail
                go_ret2
                exact ⟨by rw [HB.out, if_pos (by rw [HS.out]; exact hT)]; rfl, GF.out⟩
              · go_wp2_with fail
                go_ret2
                exact ⟨by rw [HB.out, if_neg (by rw [HS.out]; exact hT), HS.out]; rfl, GF.out⟩
      · have HS : Hid (saysT f r = fileT f) := by
          show _ = _
          unfold saysT; rw [if_neg (by omega), if_neg (by omega), if_pos hk3]
        rw [hk3] at CC KC ⊢
        clear hk3
        have hpl : (pathF f).length ≤ 601 := by unfold pathF; split <;> simp <;> omega
        have CP := Lib.hid (fun X => rPlain (pathF f) X (by omega))
        have hsl := (plainT_len (pathF f)).2
        obtain ⟨P, hP⟩ : ∃ P, bs (plainT (pathF f)) = P := ⟨_, rfl⟩
        have hPz : P.size ≤ 1803 := by rw [← hP, bs_size]; omega
        have hcat : (⟨#[102, 105, 108, 101, 32]⟩ : ByteArray) ++ P ++ ⟨#[10]⟩ = bs (fileT f) := by
          rw [← hP, show (⟨#[102, 105, 108, 101, 32]⟩ : ByteArray) = bs [102, 105, 108, 101, 32] from rfl, show (⟨#[10]⟩ : ByteArray) = bs [10] from rfl, bs_app, bs_app]; rfl
        rw [hP] at CP
        have s1 : ¬ 9223372036854775807 < 5 + P.size := by omega
        have s2 : ¬ 9223372036854775806 < 5 + P.size := by omega
        have zF := bs_size (fileT f)
        have HC := Lib.hid hcat
        clear hP hcat
        by_cases hre : f.rest = []
        · obtain ⟨m1, m2⟩ := emp_bs hre
          have HPE := Lib.hid (show bs (pathF f) = bs f.text by unfold pathF; rw [if_pos (.inr hre), hre]; simp)
          rw [HPE.out] at CP
          clear hre HPE
          go_enter Tryz.func52, Tryz.ntmps52
          go_wp2_with fail
          (with_reducible refine (CC.out).mono ?_); rintro e w1 ⟨rfl, g1⟩
          obtain ⟨k1, k2, g2⟩ := KC.out w1 g1
          have c0 : w1.cell? ⟨w.heap.size, 0, none⟩ = some (.bool true) := k1.cell 0
          have c2 : w1.cell? ⟨w.heap.size, 2, none⟩ = some (.int .i64 3) := k1.cell 2
          have c3 : w1.cell? ⟨w.heap.size, 3, none⟩ = some (.string (bs f.text)) := k1.cell 3
          have c4 : w1.cell? ⟨w.heap.size, 4, none⟩ = some (.slice N n cn) := k1.cell 4
          have c6 : w1.cell? ⟨w.heap.size, 6, none⟩ = some (.string (bs f.rest)) := k1.cell 6
          have d0 : w1.cell? ⟨w.heap.size + 1, 0, none⟩ = some (.string (bs r.method)) := k2.cell 0
          have d1 : w1.cell? ⟨w.heap.size + 1, 1, none⟩ = some (.string (bs r.path)) := k2.cell 1
          have d2 : w1.cell? ⟨w.heap.size + 1, 2, none⟩ = some (.string (bs r.query)) := k2.cell 2
          have d5 : w1.cell? ⟨w.heap.size + 1, 5, none⟩ = some (.string (bs r.body)) := k2.cell 5
          have G1 := Lib.hid g1
          have G := Lib.hid g2
          clear k1 k2 g1 g2 CC
          go_wp2_with fail
          (with_reducible refine (CP.out _).mono ?_); rintro e w2 ⟨rfl, g2⟩
          have GF := Lib.hid (G.out.trans (g2.mono G.out.size))
          clear g2 CP
          have hcat := HC.out
          by_cases hT : 4096 < (fileT f).length
          · go_wp2_with fail
            go_ret2
            exact ⟨by rw [HB.out, if_pos (by rw [HS.out]; exact hT)]; rfl, GF.out⟩
          · go_wp2_with fail
            go_ret2
            exact ⟨by rw [HB.out, if_neg (by rw [HS.out]; exact hT), HS.out]; rfl, GF.out⟩
        · obtain ⟨m1, m2⟩ := nemp_bs hre
          by_cases ht47 : f.text = [47]
          · have e1 := lit_t ht47
            have hpe : (⟨#[]⟩ : ByteArray) ++ ⟨#[47]⟩ ++ bs f.rest = bs (pathF f) := by
              rw [show (⟨#[]⟩ : ByteArray) = bs [] from rfl, show (⟨#[47]⟩ : ByteArray) = bs [47] from rfl, bs_app, bs_app]; unfold pathF; rw [if_pos (.inl ht47), ht47]; rfl
            have hpe2 : (⟨#[47]⟩ : ByteArray) ++ bs f.rest = bs (pathF f) := by
              rw [show (⟨#[47]⟩ : ByteArray) = bs [47] from rfl, bs_app]; unfold pathF; rw [if_pos (.inl ht47), ht47]
            have s3 : ¬ 9223372036854775807 < 1 + f.rest.length := by omega
            clear hre ht47
            go_enter Tryz.func52, Tryz.ntmps52
            go_wp2_with fail
            (with_reducible refine (CC.out).mono ?_); rintro e w1 ⟨rfl, g1⟩
            obtain ⟨k1, k2, g2⟩ := KC.out w1 g1
            have c0 : w1.cell? ⟨w.heap.size, 0, none⟩ = some (.bool true) := k1.cell 0
            have c2 : w1.cell? ⟨w.heap.size, 2, none⟩ = some (.int .i64 3) := k1.cell 2
            have c3 : w1.cell? ⟨w.heap.size, 3, none⟩ = some (.string (bs f.text)) := k1.cell 3
            have c4 : w1.cell? ⟨w.heap.size, 4, none⟩ = some (.slice N n cn) := k1.cell 4
            have c6 : w1.cell? ⟨w.heap.size, 6, none⟩ = some (.string (bs f.rest)) := k1.cell 6
            have d0 : w1.cell? ⟨w.heap.size + 1, 0, none⟩ = some (.string (bs r.method)) := k2.cell 0
            have d1 : w1.cell? ⟨w.heap.size + 1, 1, none⟩ = some (.string (bs r.path)) := k2.cell 1
            have d2 : w1.cell? ⟨w.heap.size + 1, 2, none⟩ = some (.string (bs r.query)) := k2.cell 2
            have d5 : w1.cell? ⟨w.heap.size + 1, 5, none⟩ = some (.string (bs r.body)) := k2.cell 5
            have G1 := Lib.hid g1
            have G := Lib.hid g2
            clear k1 k2 g1 g2 CC
            go_wp2_with fail
            (with_reducible refine (CP.out _).mono ?_); rintro e w2 ⟨rfl, g2⟩
            have GF := Lib.hid (G.out.trans (g2.mono G.out.size))
            clear g2 CP
            have hcat := HC.out
            by_cases hT : 4096 < (fileT f).length
            · go_wp2_with fail
              go_ret2
              exact ⟨by rw [HB.out, if_pos (by rw [HS.out]; exact hT)]; rfl, GF.out⟩
            · go_wp2_with fail
              go_ret2
              exact ⟨by rw [HB.out, if_neg (by rw [HS.out]; exact hT), HS.out]; rfl, GF.out⟩
          · have e1 := lit_f ht47
            have hpe : bs f.text ++ ⟨#[47]⟩ ++ bs f.rest = bs (pathF f) := by
              rw [show (⟨#[47]⟩ : ByteArray) = bs [47] from rfl, bs_app, bs_app]; unfold pathF; rw [if_neg (by rintro (h | h); exact ht47 h; exact hre h)]; simp
            have s3 : ¬ 9223372036854775806 < f.text.length := by omega
            have s4 : ¬ 9223372036854775807 < f.text.length + 1 + f.rest.length := by omega
            clear hre ht47
            go_enter Tryz.func52, Tryz.ntmps52
            go_wp2_with fail
            (with_reducible refine (CC.out).mono ?_); rintro e w1 ⟨rfl, g1⟩
            obtain ⟨k1, k2, g2⟩ := KC.out w1 g1
            have c0 : w1.cell? ⟨w.heap.size, 0, none⟩ = some (.bool true) := k1.cell 0
            have c2 : w1.cell? ⟨w.heap.size, 2, none⟩ = some (.int .i64 3) := k1.cell 2
            have c3 : w1.cell? ⟨w.heap.size, 3, none⟩ = some (.string (bs f.text)) := k1.cell 3
            have c4 : w1.cell? ⟨w.heap.size, 4, none⟩ = some (.slice N n cn) := k1.cell 4
            have c6 : w1.cell? ⟨w.heap.size, 6, none⟩ = some (.string (bs f.rest)) := k1.cell 6
            have d0 : w1.cell? ⟨w.heap.size + 1, 0, none⟩ = some (.string (bs r.method)) := k2.cell 0
            have d1 : w1.cell? ⟨w.heap.size + 1, 1, none⟩ = some (.string (bs r.path)) := k2.cell 1
            have d2 : w1.cell? ⟨w.heap.size + 1, 2, none⟩ = some (.string (bs r.query)) := k2.cell 2
            have d5 : w1.cell? ⟨w.heap.size + 1, 5, none⟩ = some (.string (bs r.body)) := k2.cell 5
            have G1 := Lib.hid g1
            have G := Lib.hid g2
            clear k1 k2 g1 g2 CC
            go_wp2_with fail
            (with_reducible refine (CP.out _).mono ?_); rintro e w2 ⟨rfl, g2⟩
            have GF := Lib.hid (G.out.trans (g2.mono G.out.size))
            clear g2 CP
            have hcat := HC.out
            by_cases hT : 4096 < (fileT f).length
            · go_wp2_with fail
              go_ret2
              exact ⟨by rw [HB.out, if_pos (by rw [HS.out]; exact hT)]; rfl, GF.out⟩
            · go_wp2_with fail
              go_ret2
              exact ⟨by rw [HB.out, if_neg (by rw [HS.out]; exact hT), HS.out]; rfl, GF.out⟩
      · have HS : Hid (saysT f r = r.body) := by
          show _ = _
          unfold saysT; rw [if_neg (by omega), if_neg (by omega), if_neg (by omega)]
        rw [hk3] at CC KC ⊢
        clear hk3
        go_enter Tryz.func52, Tryz.ntmps52
        go_wp2_with fail
        (with_reducible refine (CC.out).mono ?_); rintro e w1 ⟨rfl, g1⟩
        obtain ⟨k1, k2, g2⟩ := KC.out w1 g1
        have c0 : w1.cell? ⟨w.heap.size, 0, none⟩ = some (.bool true) := k1.cell 0
        have c2 : w1.cell? ⟨w.heap.size, 2, none⟩ = some (.int .i64 4) := k1.cell 2
        have c3 : w1.cell? ⟨w.heap.size, 3, none⟩ = some (.string (bs f.text)) := k1.cell 3
        have c4 : w1.cell? ⟨w.heap.size, 4, none⟩ = some (.slice N n cn) := k1.cell 4
        have c6 : w1.cell? ⟨w.heap.size, 6, none⟩ = some (.string (bs f.rest)) := k1.cell 6
        have d0 : w1.cell? ⟨w.heap.size + 1, 0, none⟩ = some (.string (bs r.method)) := k2.cell 0
        have d1 : w1.cell? ⟨w.heap.size + 1, 1, none⟩ = some (.string (bs r.path)) := k2.cell 1
        have d2 : w1.cell? ⟨w.heap.size + 1, 2, none⟩ = some (.string (bs r.query)) := k2.cell 2
        have d5 : w1.cell? ⟨w.heap.size + 1, 5, none⟩ = some (.string (bs r.body)) := k2.cell 5
        have G1 := Lib.hid g1
        have G := Lib.hid g2
        clear k1 k2 g1 g2 CC
        by_cases hT : 4096 < r.body.length
        · go_wp2_with fail
          go_ret2
          exact ⟨by rw [HB.out, if_pos (by rw [HS.out]; exact hT)]; rfl, G.out⟩
        · go_wp2_with fail
          go_ret2
          exact ⟨by rw [HB.out, if_neg (by rw [HS.out]; exact hT), HS.out]; rfl, G.out⟩
  · have hb : bodyT f r = ([], checkF f) := by unfold bodyT; rw [if_pos hc]
    have hne : ((checkF f : Int) != 0) = true := by rw [bne_iff_ne]; omega
    have heq : ((checkF f : Int) == 0) = false := by rw [beq_eq_false_iff_ne]; omega
    rw [hb]
    obtain ⟨E0, hE0⟩ : ∃ E0, checkF f = E0 := ⟨_, rfl⟩
    rw [hE0] at CC hne heq ⊢
    clear hb hc hE0
    go_enter Tryz.func52, Tryz.ntmps52
    go_wp2_with fail
    (with_reducible refine (CC.out).mono ?_); rintro e w1 ⟨rfl, g1⟩
    have G := Lib.hid (B2.out.trans (g1.mono B2.out.size))
    clear g1 CC
    go_wp2_with fail
    go_ret2
    exact ⟨rfl, G.out⟩
end Go.Proofs.YthhlnpfcpgfcfaaGreatDoor
