/-
  ChunkedBack, the law.
-/
import Derived.Test.YtkbihipgnlglbaaGreatDoorMa
import Derived.Test.YtkbihipgnlglbaaGreatDoorLChKnown
namespace Go.Proofs.YtkbihipgnlglbaaGreatDoor
open Go.RowKit

theorem encodeT_len (body : List UInt8) (ks : List Nat) : 5 ≤ (encodeT body ks).length := by unfold encodeT; simp
theorem encT_len (f : Nat) : ∀ (body : List UInt8) (ks : List Nat), body.length ≤ 2048 → (∀ k ∈ ks, 1 ≤ k) → (encT f body ks).length ≤ 8 * body.length := by
  induction f with
  | zero => intro body ks _ _; simp [encT]
  | succ f ih =>
    intro body ks hb hk
    unfold encT
    split
    · simp
    · rename_i hne
      obtain ⟨hn1, hn2⟩ := nextT_pos (ks := ks) hk hne 0
      rw [List.drop_zero] at hn1 hn2
      have hd := hexDigits_len (nextT body ks) (by omega)
      have := ih (body.drop (nextT body ks)) ks.tail (by rw [List.length_drop]; omega) (fun k h => hk k (List.mem_of_mem_tail h))
      simp only [List.length_append, List.length_take, List.length_cons, List.length_nil, List.length_drop] at this ⊢
      omega
theorem upB_ge (i : Nat) (b : UInt8) (h : i < 2 ∧ 97 ≤ b.toNat ∧ b.toNat ≤ 102) : (upB i b).toNat = b.toNat - 97 + 65 := by
  unfold upB
  rw [if_pos h]
  have h1 : b - 97 + 65 = UInt8.ofNat (b.toNat - 97 + 65) := by
    apply UInt8.toNat_inj.1
    rw [UInt8.toNat_add, UInt8.toNat_sub, UInt8.toNat_ofNat']
    simp
    omega
  rw [h1, UInt8.toNat_ofNat', Nat.mod_eq_of_lt (by omega)]
theorem upB_id (i : Nat) (b : UInt8) (h : ¬ (i < 2 ∧ 97 ≤ b.toNat ∧ b.toNat ≤ 102)) : upB i b = b := by unfold upB; rw [if_neg h]
theorem upL_take (l : List UInt8) : ∀ (i k : Nat), (h : k < l.length) → upL i (l.take (k + 1)) = upL i (l.take k) ++ [upB (i + k) l[k]] := by
  intro i k h
  rw [List.take_succ_eq_append_getElem h, upL_app, List.length_take, Nat.min_eq_left (by omega)]
  rfl
set_option maxRecDepth 100000 in
set_option maxHeartbeats 16000000 in
theorem ChunkedBack_true (n : Int) (A : Option Addr) (l c : Nat) (ns : List Int) (t : ByteArray) (w : World) (hn1 : -9223372036854775808 ≤ n) (hn2 : n ≤ 9223372036854775807) (hr : Reads w w.heap.size 1 A l (ns.map (Value.int .i64))) (hl : l ≤ 9223372036854775807) (hz : ∀ z ∈ ns, -9223372036854775808 ≤ z ∧ z ≤ 9223372036854775807) (ht : t.size ≤ 9223372036854775807) (hw : Held10 w) :
    Calls Tryz.prog 6 #[.int .i64 n, .slice A l c, .string t] w fun e w' => e = .returned (.bool true) ∧ Below w.heap.size w w' := by
  have TB := Lib.hid (fun X (h : Below w.heap.size w X) => hw.below h)
  have CK := Lib.hid (ChunkedKnown_true w hw)
  have CM := Lib.hid (fun w h => made10 n A l c ns w hn1 hn2 h hl hz)
  have HR := Lib.hid hr
  clear hn1 hn2 hr hl hz hw
  go_enter Tryz.func6, Tryz.ntmps6
  go_wp2_with fail
  (with_reducible refine (CK.out).mono ?_); rintro e w1 ⟨rfl, g⟩
  have h1 := g
  have HR := Lib.hid ((HR.out.below g).more g.size)
  clear g
  go_wp2_with fail
  (with_reducible refine (CM.out _ HR.out).mono ?_); rintro e w2 ⟨xs, B, m, d, zs, rfl, hxs, hrz, hm, hg, g⟩
  have h2 := h1.trans (g.mono h1.size)
  have HZ := Lib.hid hrz
  have HG := Lib.hid hg
  have hml := hrz.zlen
  have eO : encOut xs zs = (encodeT xs (zs.map Int.toNat), 0) := by unfold encOut; rw [if_neg (by omega), if_pos hg]
  have cE := pEncode xs B m d zs w2 hrz (by omega) (by omega) (TB.out _ h2).1
  rw [eO] at cE
  simp only at cE
  have eO2 : encOut xs [] = (encodeT xs [], 0) := by unfold encOut; rw [if_neg (by omega), if_pos (by intro z hz; simp at hz)]; rfl
  have cE2 := fun w ht => pEncode xs none 0 0 [] w Reads.none_ (by omega) (by omega) ht
  rw [eO2] at cE2
  simp only at cE2
  have hl1 := encT_len xs.length xs (zs.map Int.toNat) (by omega) (goodZ_ks hg)
  have hl2 := encT_len xs.length xs [] (by omega) (by simp)
  have hL1 : (encodeT xs (zs.map Int.toNat)).length ≤ 1605 := by unfold encodeT; simp; omega
  have hL2 : (encodeT xs []).length ≤ 1605 := by unfold encodeT; simp; omega
  have hL3 := encodeT_len xs (zs.map Int.toNat)
  have hL4 := encodeT_len xs []
  have hd1 := decode_encode xs (zs.map Int.toNat) (goodZ_ks hg) (by omega) t.data.toList
  have hd2 := decode_other xs hxs
  have CE := Lib.hid cE
  have CE2 := Lib.hid cE2
  generalize encodeT xs (zs.map Int.toNat) = S at *
  generalize encodeT xs [] = O at *
  have hSs := bs_size S
  have hOs := bs_size O
  have H2 := Lib.hid h2
  clear cE cE2 eO eO2 hl1 hl2 g h1 h2 hrz hg hml hm CM CK HR HZ HG
  go_wp2_with fail
  (with_reducible refine (CE.out).mono ?_); rintro e w3 ⟨rfl, g⟩
  have h3 := H2.out.trans (g.mono H2.out.size)
  have e5 : decide ((S.length : Int) < 5) = false := by simp; omega
  have e5' : decide (((bs S).size : Int) < 5) = false := by simp; omega
  by_cases h50 : 50 < t.size
  · have e1 : decide ((50 : Int) < (t.size : Int)) = true := by simp; omega
    have e6 : decide ((5 : Int) ≤ (S.length : Int)) = true := by simp; omega
    have e7 : decide ((5 : Int) ≤ ((bs S).size : Int)) = true := by simp; omega
    clear hSs hOs
    go_wp2_with fail
    go_ret
    exact ⟨rfl, h3⟩
  · have e1 : decide ((50 : Int) < (t.size : Int)) = false := by simp; omega
    have cD1 := fun w hE => pDecode (bs S ++ t) (by rw [ByteArray.size_append, hSs]; omega) w hE
    rw [show (bs S ++ t).data.toList = S ++ t.data.toList by rw [ByteArray.data_append, Array.toList_append]; rfl, hd1] at cD1
    simp only at cD1
    have CD1 := Lib.hid cD1
    have cD2 := fun w hE => pDecode (bs (48 :: upL 0 (O.take (O.length - 2)) ++ trailT)) (by rw [bs_size]; simp [trailT, upL_len]; omega) w hE
    rw [show (bs (48 :: upL 0 (O.take (O.length - 2)) ++ trailT)).data.toList = otherT O ++ trailT from rfl, hd2] at cD2
    simp only at cD2
    have hoL : (otherT O).length = O.length - 1 := by unfold otherT; simp [upL_len]; omega
    rw [hoL] at cD2
    have CD2 := Lib.hid cD2
    have HTT := Lib.hid (TB.out _ h3).2
    have H3 := Lib.hid h3
    have hq : ((bs xs).toList == (bs xs).toList) = true := beq_self_eq_true _
    have s1 : ¬ 9223372036854775807 < S.length + t.size := by omega
    have s2 : ¬ 9223372036854775807 < (bs S).size + t.size := by omega
    have e8 : decide ((O.length : Int) < 5) = false := by simp; omega
    have e9 : decide (((bs O).size : Int) < 5) = false := by simp; omega
    have hw0 : IntKind.i64.wrap ((O.length : Int) - 2) = ((O.length - 2 : Nat) : Int) := by rw [IntKind.wrap_i64]; omega
    clear cD1 cD2 hd1 hd2 hoL h3 g h50 H2
    go_wp2_with fail
    (with_reducible refine (CD1.out _ HTT.out).mono ?_); rintro e w4 ⟨rfl, g⟩
    have h4 := H3.out.trans (g.mono H3.out.size)
    have HT4 := Lib.hid (TB.out _ h4).1
    have H4 := Lib.hid h4
    clear g h4
    go_wp2_with fail
    (with_reducible refine (CE2.out _ HT4.out).mono ?_); rintro e w5 ⟨rfl, g⟩
    have h5 := H4.out.trans (g.mono H4.out.size)
    have H5 := Lib.hid h5
    clear g h5
    go_wp2_with fail
    generalize hOB : bs O = OB at *
    go_loopw [17, 18] (fun a i wr => ∃ k : Nat, a = .string (bs (48 :: upL 0 (O.take k))) ∧ i = .int .i64 k ∧ k ≤ O.length - 2 ∧ Hid (Below w.heap.size w wr)) (fun _ i _ => O.length - (intOf i).toNat)
    case atStart => exact ⟨0, rfl, rfl, by omega, H5⟩
    case round =>
      obtain ⟨k, rfl, rfl, hk, hb⟩ := hrel
      rename World => wr
      by_cases hlt : k < O.length - 2
      · have hkO : k < OB.size := by omega
        have hkL : k < O.length := by omega
        obtain ⟨x, hx⟩ : ∃ x, OB[k] = x := ⟨_, rfl⟩
        have hxO : O[k] = x := by rw [← hx]; subst hOB; rfl
        have hst := upL_take O 0 k hkL
        rw [hxO, Nat.zero_add] at hst
        have hul : (upL 0 (O.take k)).length = k := by rw [upL_len, List.length_take]; omega
        obtain ⟨D, hD⟩ : ∃ D, bs (48 :: upL 0 (O.take k)) = D := ⟨_, rfl⟩
        have hDs : D.size = k + 1 := by rw [← hD, bs_size]; simp [hul]
        obtain ⟨y, hy⟩ : ∃ y, upB k x = y := ⟨_, rfl⟩
        rw [hy] at hst
        have hE : D ++ bs [y] = bs (48 :: upL 0 (O.take (k + 1))) := by
          rw [hst, ← hD, bs_app]; rfl
        have hcv0 : ∀ (q : World) (b cap : Nat), q.cell? ⟨b, 0, none⟩ = some (.int .u8 (y.toNat : Int)) → (convert 42 9 (.slice (some ⟨b, 0, none⟩) 1 cap)).run Tryz.prog q = .ok (.string (bs [y])) q := fun q b cap hq => by
          exact run_convert_bytes_back (P := Tryz.prog) q 42 9 5 ⟨b, 0, none⟩ cap [y] Tryz.underlying42 Tryz.underlying5 Tryz.underlying9 (fun j hj => by
            have : j = 0 := by simpa using hj
            subst this
            rw [show (⟨b, 0, none⟩ : Addr).add 0 = ⟨b, 0, none⟩ from rfl, hq]
            simp)
        have hcv := hcv0 (wr.alloc (.cells #[.int .u8 (y.toNat : Int)] 5)) wr.heap.size 1 (by rw [World.cell?_alloc_new]; rfl)
        have z1 : (bs [y]).size = 1 := rfl
        have s3 : ¬ 9223372036854775807 < D.size + (bs [y]).size := by omega
        have s4 : ¬ 9223372036854775806 < D.size := by omega
        have d0 : decide ((k : Int) < ((O.length - 2 : Nat) : Int)) = true := by simp; omega
        have HE := Lib.hid hE
        have HB := Lib.hid (hb.out.alloc hb.out.size (.cells #[.int .u8 (y.toNat : Int)] 5))
        have hx255 := UInt8.toNat_lt x
        rw [hD]
        clear hE hst hD hDs hul hxO hcv0 hb
        by_cases hu : k < 2 ∧ 97 ≤ x.toNat ∧ x.toNat ≤ 102
        · have hy2 := upB_ge k x hu
          rw [hy] at hy2
          obtain ⟨u1, u2, u3⟩ := hu
          have v1 : decide ((k : Int) < 2) = true := by simp; omega
          have v2 : decide ((97 : Int) ≤ (x.toNat : Int)) = true := by simp; omega
          have v3 : decide ((x.toNat : Int) ≤ 102) = true := by simp; omega
          have w1' : IntKind.u8.wrap ((x.toNat : Int) - 97) = (x.toNat : Int) - 97 := by rw [IntKind.wrap_u8]; omega
          have w2' : IntKind.u8.wrap ((x.toNat : Int) - 97 + 65) = (y.toNat : Int) := by rw [IntKind.wrap_u8]; omega
          have w3' : (x.toNat : Int) - 97 + 65 = (y.toNat : Int) := by omega
          clear hy hy2
          go_wp2_with fail
          go_roundw
          case rel => exact ⟨k + 1, by rw [← HE.out], by go_num, by omega, HB⟩
          case measure => simp [intOf]; omega
        · have hy2 := upB_id k x hu
          rw [hy] at hy2
          subst hy2
          by_cases u1 : k < 2
          · have v1 : decide ((k : Int) < 2) = true := by simp; omega
            by_cases u2 : 97 ≤ y.toNat
            · have v2 : decide ((97 : Int) ≤ (y.toNat : Int)) = true := by simp; omega
              have v3 : decide ((y.toNat : Int) ≤ 102) = false := by simp; omega
              clear hy hu
              go_wp2_with fail
              go_roundw
              case rel => exact ⟨k + 1, by rw [← HE.out], by go_num, by omega, HB⟩
              case measure => simp [intOf]; omega
            · have v2 : decide ((97 : Int) ≤ (y.toNat : Int)) = false := by simp; omega
              clear hy hu
              go_wp2_with fail
              go_roundw
              case rel => exact ⟨k + 1, by rw [← HE.out], by go_num, by omega, HB⟩
              case measure => simp [intOf]; omega
          · have v1 : decide ((k : Int) < 2) = false := by simp; omega
            clear hy hu
            go_wp2_with fail
            go_roundw
            case rel => exact ⟨k + 1, by rw [← HE.out], by go_num, by omega, HB⟩
            case measure => simp [intOf]; omega
      · obtain rfl : k = O.length - 2 := by omega
        have d0 : decide (((O.length - 2 : Nat) : Int) < ((O.length - 2 : Nat) : Int)) = false := by simp
        obtain ⟨D, hD⟩ : ∃ D, bs (48 :: upL 0 (O.take (O.length - 2))) = D := ⟨_, rfl⟩
        have hDs : D.size = O.length - 1 := by rw [← hD, bs_size]; simp [upL_len]; omega
        have hDT : bs (48 :: upL 0 (O.take (O.length - 2)) ++ trailT) = D ++ ⟨#[88, 45, 65, 58, 32, 49, 13, 10, 121, 58, 13, 10, 13, 10]⟩ := by rw [← hD, ← bs_app]; rfl
        rw [hDT] at CD2
        have HTE := Lib.hid (TB.out _ hb.out).2
        have s3 : ¬ 9223372036854775807 < D.size + 14 := by omega
        have s4 : ¬ 9223372036854775793 < D.size := by omega
        have hw1 : IntKind.i64.wrap (((O.length - 1 : Nat) : Int) + 14) = ((O.length - 1 + 14 : Nat) : Int) := by rw [IntKind.wrap_i64]; omega
        have hDi : (D.size : Int) = ((O.length - 1 : Nat) : Int) := by omega
        rw [hD]
        clear hD hDT hDs
        go_wp2_with fail
        (with_reducible refine (CD2.out _ HTE.out).mono ?_); rintro e w6 ⟨rfl, g⟩
        have h6 := hb.out.trans (g.mono hb.out.size)
        clear g
        go_wp2_with fail
        go_ret
        exact ⟨by first | rfl | simp, h6⟩
end Go.Proofs.YtkbihipgnlglbaaGreatDoor
