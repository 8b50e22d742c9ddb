/-
  waypostlaw12.RespondBack: true, whatever the response and what stands behind it.
-/
import Derived.Test.YthhlnpfcpgfcfaaDoorRb0
import Derived.Test.YthhlnpfcpgfcfaaDoorAw12
namespace Go.Proofs.YthhlnpfcpgfcfaaDoor
open Go.RowKit

theorem textB_len {r : Rsp} (h : checkR r = 0) : (textR r).length ≤ 100000 := by
  obtain ⟨_, _, _, hb⟩ := check_ok h
  have h1 := bufR_len h r.flds.length
  have h2 : (lenR r.body.length).length ≤ 20 := by unfold lenR; have := dec_len r.body.length (by omega); simp only [List.length_append, List.length_cons, List.length_nil]; omega
  rw [textR_buf]
  have h3 : (if r.close = true then closeR ++ [13, 10] else []).length ≤ 19 := by cases r.close <;> simp [closeR]
  have h4 : (if r.head = true then ([] : List UInt8) else r.body).length ≤ 4096 := by cases r.head <;> simp <;> omega
  simp only [List.length_append, List.length_cons, List.length_nil]
  omega
theorem check_head (code : Int) (flds : List Fld) (body : List UInt8) (close h h2 : Bool) : checkR ⟨code, flds, body, close, h⟩ = checkR ⟨code, flds, body, close, h2⟩ := rfl
theorem text_head (code : Int) (flds : List Fld) (body : List UInt8) (close : Bool) : textR ⟨code, flds, body, close, false⟩ = textR ⟨code, flds, body, close, true⟩ ++ body := by
  simp [textR, headR]
theorem Reads.farB {w : World} {B size n : Nat} {A : Option Addr} {xs : List Value} (h : Reads w B size A n xs) {p : Addr} (hne : 0 < n → ∀ ad, A = some ad → ad.block ≠ p.block) (u : Value) : Reads (w.setCell p u) B size A n xs :=
  ⟨h.1, fun hn => by
    obtain ⟨ad, e, hb, hc⟩ := h.2 hn
    refine ⟨ad, e, hb, fun j v hv => (World.cell?_setCell_other w p _ u (fun e2 => hne hn ad e ?_)).trans (hc j v hv)⟩
    have := congrArg Addr.block e2
    rw [block_of_add] at this
    exact this.symm⟩
theorem Reads.not_blk {w : World} {B n g : Nat} {A : Option Addr} {l : List Fld} {t : TypeId} {cs : Array Value} (h : Reads w B 2 A n (fldsC l)) (k : Blk w g t cs) (hcs : ∀ i s1 s2, cs[i]? = some (.string s1) → cs[i + 1]? = some (.string s2) → False) : 0 < n → ∀ ad, A = some ad → ad.block ≠ g := by
  intro hn ad e hb
  have hl := h.flen
  obtain ⟨b, o, e2, _, h0, h1⟩ := h.fld 0 (by omega)
  rw [e2] at e
  injection e with e
  subst e
  simp only at hb
  subst hb
  rw [k.cell] at h0 h1
  simp only [Nat.zero_mul, Nat.add_zero] at h0 h1
  exact hcs o _ _ h0 h1
theorem rsp_apart (code : Int) (v : Value) (hv : ∀ s, v ≠ .string s) (body : ByteArray) (c h : Bool) : ∀ i s1 s2, (#[.int .i64 code, v, .string body, .bool c, .bool h] : Array Value)[i]? = some (.string s1) → (#[.int .i64 code, v, .string body, .bool c, .bool h] : Array Value)[i + 1]? = some (.string s2) → False := by
  intro i s1 s2 h1 h2
  match i with
  | 0 => simp at h1
  | 1 => simp at h1; exact hv _ h1
  | 2 => simp at h2
  | 3 => simp at h1
  | 4 => simp at h1
  | i + 5 => simp at h1
theorem flt_apart (a b : Int) : ∀ i s1 s2, (#[.int .i64 a, .int .i64 b] : Array Value)[i]? = some (.string s1) → (#[.int .i64 a, .int .i64 b] : Array Value)[i + 1]? = some (.string s2) → False := by
  intro i s1 s2 h1 _
  match i with
  | 0 => simp at h1
  | 1 => simp at h1
  | i + 2 => simp at h1
theorem flt_set {w : World} {g : Nat} {t : TypeId} {a0 a1 : Value} (h : Blk w g t #[a0, a1]) (b0 b1 : Value) : Blk ((w.setCell ⟨g, 0, none⟩ b0).setCell ⟨g, 1, none⟩ b1) g t #[b0, b1] := by
  have := (h.set_ 0 b0).set_ 1 b1
  simpa using this
set_option maxRecDepth 100000 in
set_option maxHeartbeats 16000000 in
theorem RespondBack_true (r : Rsp) (A : Option Addr) (n c : Nat) (more : ByteArray) (w : World) (hr : Reads w w.heap.size 2 A n (fldsC r.flds)) (hn : n ≤ 9223372036854775807) (hb : r.body.length ≤ 9223372036854775807) (hx : ∀ f ∈ r.flds, f.1.length ≤ 9223372036854775807 ∧ f.2.length ≤ 9223372036854775807) (hmo : more.size ≤ 9223372036854775807) (ht : Tab12 w) :
    Calls Tryd.prog 3 #[rspV r A n c, .string more] w fun e w' => e = .returned (.bool true) ∧ Below w.heap.size w w' := by
  obtain rfl := hr.flen
  obtain ⟨M, hM⟩ : ∃ M, bs M = more := ⟨more.data.toList, ba_ext (by rw [bs_list])⟩
  have hMl : M.length = more.size := by rw [← hM, bs_size]
  have HM := Lib.hid hM
  clear hM
  obtain ⟨code, flds, body, close, head⟩ := r
  simp only at hr hn hb hx
  have b0 : Below w.heap.size w (w.alloc (.cells #[.int .i64 code, .slice A flds.length c, .string (bs body), .bool close, .bool head] 24)) := (Below.refl _ _).alloc (Nat.le_refl _) _
  have k0 := Blk.new w 24 #[.int .i64 code, .slice A flds.length c, .string (bs body), .bool close, .bool head]
  have cL := pLight12 ⟨code, flds, body, close, head⟩ A flds.length c (w.alloc (.cells #[.int .i64 code, .slice A flds.length c, .string (bs body), .bool close, .bool head] 24)) ((hr.below b0).more b0.size) hn hb hx
  unfold rspV at cL ⊢
  simp only at cL ⊢
  have B0 := Lib.hid b0
  have K0 := Lib.hid k0
  have HR := Lib.hid hr
  have HT := Lib.hid ht
  have CL := Lib.hid cL
  have AW := Lib.hid (fun X (hX : Below w.heap.size w X) => awake12 X (ht.below hX))
  clear b0 k0 hr ht cL hx hb
  go_enter Tryd.func3, Tryd.ntmps3
  go_wp2_with fail
  (with_reducible refine (CL.out).mono ?_); rintro e w1 ⟨lb, rfl, hlb, g1⟩
  have G1 := Lib.hid (B0.out.trans (g1.mono B0.out.size))
  have K1 := Lib.hid (K0.out.below g1 K0.out.lt)
  clear g1 CL
  have CA := Lib.hid (AW.out w1 G1.out)
  cases lb with
  | false =>
    clear hlb
    go_wp2_with fail
    (with_reducible refine (CA.out).mono ?_); rintro e w2 ⟨rfl, g2⟩
    go_wp2_with fail
    go_ret
    exact ⟨rfl, G1.out.trans (g2.mono G1.out.size)⟩
  | true =>
    obtain ⟨l1, l2, l3⟩ := hlb rfl
    by_cases hm60 : 60 < more.size
    · have hd : (60 : Int) < (more.size : Int) := by omega
      clear l1 l2 l3 hlb
      go_wp2_with fail
      (with_reducible refine (CA.out).mono ?_); rintro e w2 ⟨rfl, g2⟩
      go_wp2_with fail
      go_ret
      exact ⟨rfl, G1.out.trans (g2.mono G1.out.size)⟩
    · have hd : (more.size : Int) ≤ 60 := by omega
      have K1f := K1.out.frozen 4
      have k2 := K1.out.set_ 4 (.bool false)
      have e2 : (#[.int .i64 code, .slice A flds.length c, .string (bs body), .bool close, .bool head] : Array Value).setIfInBounds 4 (.bool false) = #[.int .i64 code, .slice A flds.length c, .string (bs body), .bool close, .bool false] := by simp
      rw [e2] at k2
      have c4 : w1.cell? ⟨w.heap.size, 4, none⟩ = some (.bool head) := K1.out.cell 4
      have g2 := G1.out.setCell (p := ⟨w.heap.size, 4, none⟩) (Nat.le_refl _) (.bool false)
      have cO := pOwn12 ⟨code, flds, body, close, false⟩ A flds.length c (w1.setCell ⟨w.heap.size, 4, none⟩ (.bool false)) ((HR.out.below g2).more g2.size) (by have := l1; simp only at this; omega)
      unfold OwnPost rspV at cO
      simp only at cO
      have c0 : (w1.setCell ⟨w.heap.size, 4, none⟩ (.bool false)).cell? ⟨w.heap.size, 0, none⟩ = some (.int .i64 code) := k2.cell 0
      have c1 : (w1.setCell ⟨w.heap.size, 4, none⟩ (.bool false)).cell? ⟨w.heap.size, 1, none⟩ = some (.slice A flds.length c) := k2.cell 1
      have c2 : (w1.setCell ⟨w.heap.size, 4, none⟩ (.bool false)).cell? ⟨w.heap.size, 2, none⟩ = some (.string (bs body)) := k2.cell 2
      have c3 : (w1.setCell ⟨w.heap.size, 4, none⟩ (.bool false)).cell? ⟨w.heap.size, 3, none⟩ = some (.bool close) := k2.cell 3
      have c4' : (w1.setCell ⟨w.heap.size, 4, none⟩ (.bool false)).cell? ⟨w.heap.size, 4, none⟩ = some (.bool false) := k2.cell 4
      have CO := Lib.hid cO
      have G2 := Lib.hid g2
      have K2 := Lib.hid k2
      simp only at l1 l2 l3
      have HL := Lib.hid (show fldsOkR flds from fun f hf => by have := l3 f hf; omega)
      clear cO g2 k2 e2 hlb CA l3
      go_wp2_with fail
      (with_reducible refine (CO.out).mono ?_); rintro e w3 ⟨B, d, rfl, hdB, hrB, g3⟩
      have G3 := Lib.hid (G2.out.trans (g3.mono G2.out.size))
      have K3 := Lib.hid (K2.out.below g3 K2.out.lt)
      have cT := pTextR ⟨code, flds, body, close, false⟩ B flds.length d w3 hrB (by omega) HL.out (by simp only; omega) (HT.out.below G3.out).r
      unfold rspV at cT
      simp only at cT
      obtain ⟨E0, hE0⟩ : ∃ E0, checkR ⟨code, flds, body, close, false⟩ = E0 := ⟨_, rfl⟩
      have HE0 := Lib.hid hE0
      obtain ⟨S, hS⟩ : ∃ S, bs (textOf ⟨code, flds, body, close, false⟩) = S := ⟨_, rfl⟩
      rw [hE0, hS] at cT
      have HS := Lib.hid hS
      have CT := Lib.hid cT
      clear cT g3 CO c0 c1 c2 c3 c4 c4' K1f hrB hE0 hS K1 K2 G1 G2 B0 K0
      go_wp2_with fail
      (with_reducible refine (CT.out).mono ?_); rintro e w4 ⟨rfl, g4⟩
      have G4 := Lib.hid (G3.out.trans (g4.mono G3.out.size))
      have K4 := Lib.hid (K3.out.below g4 K3.out.lt)
      have c0 : w4.cell? ⟨w.heap.size, 0, none⟩ = some (.int .i64 code) := K4.out.cell 0
      have c1 : w4.cell? ⟨w.heap.size, 1, none⟩ = some (.slice A flds.length c) := K4.out.cell 1
      have c2 : w4.cell? ⟨w.heap.size, 2, none⟩ = some (.string (bs body)) := K4.out.cell 2
      have c3 : w4.cell? ⟨w.heap.size, 3, none⟩ = some (.bool close) := K4.out.cell 3
      have c4 : w4.cell? ⟨w.heap.size, 4, none⟩ = some (.bool false) := K4.out.cell 4
      clear g4 CT
      by_cases hc : E0 = 0
      · subst hc
        have hto : textOf ⟨code, flds, body, close, false⟩ = textR ⟨code, flds, body, close, false⟩ := if_pos HE0.out
        have htl := textB_len HE0.out
        obtain ⟨T0, hT0⟩ : ∃ T0, textR ⟨code, flds, body, close, false⟩ = T0 := ⟨_, rfl⟩
        have hsb : bs T0 = S := by rw [← hT0, ← hto]; exact HS.out
        rw [hT0] at htl
        have hSz : S.size = T0.length := by rw [← hsb, bs_size]
        have cP := pParse (T0 ++ M) false w4 (by rw [List.length_append]; omega) (HT.out.below G4.out).r (HT.out.below G4.out).m (HT.out.below G4.out).e
        rw [parse_back (r := ⟨code, flds, body, close, false⟩) HE0.out M (by rw [hT0]) rfl, hT0, ← bs_app, hsb, HM.out] at cP
        unfold rspV backR at cP
        simp only [Bool.false_eq_true, if_false] at cP
        have CP := Lib.hid cP
        have HT0 := Lib.hid hT0
        have HSB := Lib.hid hsb
        have s1 : ¬ 9223372036854775807 < T0.length + more.size := by omega
        clear cP hT0 hsb hto
        go_wp2_with fail
        (with_reducible refine (CP.out).mono ?_); rintro e w5 ⟨A2, q2, rfl, hr2, hq2, g5⟩
        have G5 := Lib.hid (G4.out.trans (g5.mono G4.out.size))
        have HSZ := Lib.hid (show w.heap.size < w5.heap.size from (K4.out.below g5 K4.out.lt).lt)
        have K5 := Lib.hid (K4.out.below g5 K4.out.lt)
        have b6 : Below w5.heap.size w5 ((w5.alloc (.cells #[.int .i64 code, .slice A2 flds.length q2, .string (bs body), .bool close, .bool false] 24)).alloc (.cells #[.int .i64 0, .int .i64 0] 33)) := ((Below.refl _ _).alloc (Nat.le_refl _) _).alloc (by simp) _
        have kA := (Blk.new w5 24 #[.int .i64 code, .slice A2 flds.length q2, .string (bs body), .bool close, .bool false]).alloc (.cells #[.int .i64 0, .int .i64 0] 33)
        have kF := Blk.new (w5.alloc (.cells #[.int .i64 code, .slice A2 flds.length q2, .string (bs body), .bool close, .bool false] 24)) 33 #[.int .i64 0, .int .i64 0]
        rw [show (w5.alloc (.cells #[.int .i64 code, .slice A2 flds.length q2, .string (bs body), .bool close, .bool false] 24)).heap.size = w5.heap.size + 1 by simp] at kF
        obtain ⟨W6, hW6⟩ : ∃ W6, ((w5.alloc (.cells #[.int .i64 code, .slice A2 flds.length q2, .string (bs body), .bool close, .bool false] 24)).alloc (.cells #[.int .i64 0, .int .i64 0] 33)) = W6 := ⟨_, rfl⟩
        rw [hW6] at b6 kA kF
        have hr6 := hr2.below b6 |>.more b6.size
        have G6 := Lib.hid (G5.out.trans (b6.mono G5.out.size))
        have K6 := Lib.hid (K5.out.below b6 K5.out.lt)
        have cT := pTextR ⟨code, flds, body, close, false⟩ A2 flds.length q2 W6 hr6 (by omega) HL.out (by simp only; omega) (HT.out.below G6.out).r
        unfold rspV at cT
        simp only at cT
        rw [HE0.out, HS.out, ← hW6] at cT
        have CT := Lib.hid cT
        have HW6 := Lib.hid hW6
        have KA := Lib.hid kA
        have KF := Lib.hid kF
        have HR6 := Lib.hid hr6
        clear cT hW6 kA kF hr6 hr2 hq2 b6 g5 CP c0 c1 c2 c3 c4 s1
        go_wp2_with fail
        (with_reducible refine (CT.out).mono ?_); rintro e w7 ⟨rfl, g7⟩
        rw [HW6.out] at g7
        have G7 := Lib.hid (G6.out.trans (g7.mono G6.out.size))
        have K7 := Lib.hid (K6.out.below g7 K6.out.lt)
        have KA7 := Lib.hid (KA.out.below g7 KA.out.lt)
        have KF7 := Lib.hid (KF.out.below g7 KF.out.lt)
        have cS := pSame12 ⟨code, flds, body, close, false⟩ A2 A flds.length flds.length q2 c w7 ((HR6.out.below g7).more g7.size) ((HR.out.below G7.out).more G7.out.size) (by omega)
        unfold rspV at cS
        simp only at cS
        have CS := Lib.hid cS
        have c0 : w7.cell? ⟨w.heap.size, 0, none⟩ = some (.int .i64 code) := K7.out.cell 0
        have c1 : w7.cell? ⟨w.heap.size, 1, none⟩ = some (.slice A flds.length c) := K7.out.cell 1
        have c2 : w7.cell? ⟨w.heap.size, 2, none⟩ = some (.string (bs body)) := K7.out.cell 2
        have c3 : w7.cell? ⟨w.heap.size, 3, none⟩ = some (.bool close) := K7.out.cell 3
        have c4 : w7.cell? ⟨w.heap.size, 4, none⟩ = some (.bool false) := K7.out.cell 4
        have a0 : w7.cell? ⟨w5.heap.size, 0, none⟩ = some (.int .i64 code) := KA7.out.cell 0
        have a1 : w7.cell? ⟨w5.heap.size, 1, none⟩ = some (.slice A2 flds.length q2) := KA7.out.cell 1
        have a2 : w7.cell? ⟨w5.heap.size, 2, none⟩ = some (.string (bs body)) := KA7.out.cell 2
        have a3 : w7.cell? ⟨w5.heap.size, 3, none⟩ = some (.bool close) := KA7.out.cell 3
        have a4 : w7.cell? ⟨w5.heap.size, 4, none⟩ = some (.bool false) := KA7.out.cell 4
        clear g7 cS CT KA KF K6 HR6 HW6
        go_wp2_with fail
        (with_reducible refine (CS.out).mono ?_); rintro e w8 ⟨rfl, g8⟩
        have G8 := Lib.hid (G7.out.trans (g8.mono G7.out.size))
        have K8 := Lib.hid (K7.out.below g8 K7.out.lt)
        have KF8 := Lib.hid (KF7.out.below g8 KF7.out.lt)
        have f0 : w8.cell? ⟨w5.heap.size + 1, 0, none⟩ = some (.int .i64 0) := KF8.out.cell 0
        have f1 : w8.cell? ⟨w5.heap.size + 1, 1, none⟩ = some (.int .i64 0) := KF8.out.cell 1
        have hN := neFlt 0 0 0 0
        have hSS : (S.toList == S.toList) = true := by simp
        have hzz : ((T0.length : Int) != (T0.length : Int)) = false := by simp
        have c4 : w8.cell? ⟨w.heap.size, 4, none⟩ = some (.bool false) := K8.out.cell 4
        have fr4 := K8.out.frozen 4
        clear c0 c1 c2 c3 a0 a1 a2 a3 a4 g8 CS
        have k9 := K8.out.set_ 4 (.bool true)
        have e9 : (#[.int .i64 code, .slice A flds.length c, .string (bs body), .bool close, .bool false] : Array Value).setIfInBounds 4 (.bool true) = #[.int .i64 code, .slice A flds.length c, .string (bs body), .bool close, .bool true] := by simp
        rw [e9] at k9
        have g9 := G8.out.setCell (p := ⟨w.heap.size, 4, none⟩) (Nat.le_refl _) (.bool true)
        have kf9 := KF8.out.far (p := ⟨w.heap.size, 4, none⟩) (by have := KF8.out.lt; have := G5.out.size; show w5.heap.size + 1 ≠ w.heap.size; omega) (.bool true)
        have cO := pOwn12 ⟨code, flds, body, close, true⟩ A flds.length c (w8.setCell ⟨w.heap.size, 4, none⟩ (.bool true)) ((HR.out.below g9).more g9.size) (by omega)
        unfold OwnPost rspV at cO
        simp only at cO
        have c0 : (w8.setCell ⟨w.heap.size, 4, none⟩ (.bool true)).cell? ⟨w.heap.size, 0, none⟩ = some (.int .i64 code) := k9.cell 0
        have c1 : (w8.setCell ⟨w.heap.size, 4, none⟩ (.bool true)).cell? ⟨w.heap.size, 1, none⟩ = some (.slice A flds.length c) := k9.cell 1
        have c2 : (w8.setCell ⟨w.heap.size, 4, none⟩ (.bool true)).cell? ⟨w.heap.size, 2, none⟩ = some (.string (bs body)) := k9.cell 2
        have c3 : (w8.setCell ⟨w.heap.size, 4, none⟩ (.bool true)).cell? ⟨w.heap.size, 3, none⟩ = some (.bool close) := k9.cell 3
        have c4' : (w8.setCell ⟨w.heap.size, 4, none⟩ (.bool true)).cell? ⟨w.heap.size, 4, none⟩ = some (.bool true) := k9.cell 4
        have CO := Lib.hid cO
        have G9 := Lib.hid g9
        have K9 := Lib.hid k9
        have KF9 := Lib.hid kf9
        clear cO g9 k9 e9 kf9 K3 K4 K5 K7 KA7 KF7 G3 G4 G6 G7
        go_wp2_with fail
        (with_reducible refine (CO.out).mono ?_); rintro e w10 ⟨B1, d1, rfl, hdB1, hrB1, g10⟩
        have G10 := Lib.hid (G9.out.trans (g10.mono G9.out.size))
        have K10 := Lib.hid (K9.out.below g10 K9.out.lt)
        have KF10 := Lib.hid (KF9.out.below g10 KF9.out.lt)
        have hc1 : checkR ⟨code, flds, body, close, true⟩ = 0 := HE0.out
        have cT := pTextR ⟨code, flds, body, close, true⟩ B1 flds.length d1 w10 hrB1 (by omega) HL.out (by simp only; omega) (HT.out.below G10.out).r
        unfold rspV at cT
        simp only at cT
        have hto1 : textOf ⟨code, flds, body, close, true⟩ = textR ⟨code, flds, body, close, true⟩ := if_pos hc1
        have htl1 := textB_len hc1
        have hsum := text_head code flds body close
        rw [HT0.out] at hsum
        obtain ⟨T1, hT1⟩ : ∃ T1, textR ⟨code, flds, body, close, true⟩ = T1 := ⟨_, rfl⟩
        obtain ⟨S1, hS1⟩ : ∃ S1, bs T1 = S1 := ⟨_, rfl⟩
        rw [hc1, hto1, hT1, hS1] at cT
        rw [hT1] at htl1 hsum
        have hS1z : S1.size = T1.length := by rw [← hS1, bs_size]
        have CT := Lib.hid cT
        have HS1 := Lib.hid (And.intro hS1 hT1)
        have HC1 := Lib.hid hc1
        have HSM := Lib.hid hsum
        clear cT g10 CO c0 c1 c2 c3 c4 c4' fr4 hrB1 hdB1 hc1 hto1 hsum hT1 hS1 f0 f1 K8 KF8 K9 KF9 G8 G9 G5
        go_wp2_with fail
        (with_reducible refine (CT.out).mono ?_); rintro e w11 ⟨rfl, g11⟩
        have G11 := Lib.hid (G10.out.trans (g11.mono G10.out.size))
        have K11 := Lib.hid (K10.out.below g11 K10.out.lt)
        have KF11 := Lib.hid (KF10.out.below g11 KF10.out.lt)
        have cP := pParse (T1 ++ M) true w11 (by rw [List.length_append]; omega) (HT.out.below G11.out).r (HT.out.below G11.out).m (HT.out.below G11.out).e
        rw [parse_back (r := ⟨code, flds, body, close, true⟩) HC1.out M (by rw [HS1.out.2]) rfl, HS1.out.2, ← bs_app, HS1.out.1, HM.out] at cP
        unfold rspV backR at cP
        simp only [if_true] at cP
        rw [show bs [] = (⟨#[]⟩ : ByteArray) from rfl] at cP
        have CP := Lib.hid cP
        have s1 : ¬ 9223372036854775807 < T1.length + more.size := by omega
        clear cP g11 CT K10 KF10 G10
        go_wp2_with fail
        (with_reducible refine (CP.out).mono ?_); rintro e w12 ⟨A3, q3, rfl, hr3, hq3, g12⟩
        have G12 := Lib.hid (G11.out.trans (g12.mono G11.out.size))
        have K12 := Lib.hid (K11.out.below g12 K11.out.lt)
        have KF12 := Lib.hid (KF11.out.below g12 KF11.out.lt)
        have lt1 : w.heap.size < w5.heap.size := by have := K12.out.lt; have := HSZ.out; omega
        have lt2 : w5.heap.size + 1 < w12.heap.size := KF12.out.lt
        have kfV := KF12.out.alloc (.cells #[.int .i64 code, .slice A3 flds.length q3, .string ⟨#[]⟩, .bool close, .bool true] 24)
        have krV := K12.out.alloc (.cells #[.int .i64 code, .slice A3 flds.length q3, .string ⟨#[]⟩, .bool close, .bool true] 24)
        have kbV := Blk.new w12 24 #[.int .i64 code, .slice A3 flds.length q3, .string ⟨#[]⟩, .bool close, .bool true]
        have rdV := (hr3.alloc (Nat.le_refl _) (.cells #[.int .i64 code, .slice A3 flds.length q3, .string ⟨#[]⟩, .bool close, .bool true] 24))
        have gV : Below w.heap.size w (w12.alloc (.cells #[.int .i64 code, .slice A3 flds.length q3, .string ⟨#[]⟩, .bool close, .bool true] 24)) := G12.out.alloc G12.out.size _
        have kf1 := flt_set kfV (.int .i64 0) (.int .i64 0)
        have kr1 := (krV.far (p := ⟨w5.heap.size + 1, 0, none⟩) (by show w.heap.size ≠ w5.heap.size + 1; omega) (.int .i64 0)).far (p := ⟨w5.heap.size + 1, 1, none⟩) (by show w.heap.size ≠ w5.heap.size + 1; omega) (.int .i64 0)
        have kb1 := (kbV.far (p := ⟨w5.heap.size + 1, 0, none⟩) (by show w12.heap.size ≠ w5.heap.size + 1; omega) (.int .i64 0)).far (p := ⟨w5.heap.size + 1, 1, none⟩) (by show w12.heap.size ≠ w5.heap.size + 1; omega) (.int .i64 0)
        have hnf : 0 < flds.length → ∀ ad, A3 = some ad → ad.block ≠ w5.heap.size + 1 := rdV.not_blk kfV (flt_apart 0 0)
        have rd1 := (rdV.farB (p := ⟨w5.heap.size + 1, 0, none⟩) hnf (.int .i64 0)).farB (p := ⟨w5.heap.size + 1, 1, none⟩) hnf (.int .i64 0)
        have g1 := (gV.setCell (p := ⟨w5.heap.size + 1, 0, none⟩) (by show w.heap.size ≤ w5.heap.size + 1; omega) (.int .i64 0)).setCell (p := ⟨w5.heap.size + 1, 1, none⟩) (by show w.heap.size ≤ w5.heap.size + 1; omega) (.int .i64 0)
        have kr2 := kr1.set_ 2 (.string ⟨#[]⟩)
        have er2 : (#[.int .i64 code, .slice A flds.length c, .string (bs body), .bool close, .bool true] : Array Value).setIfInBounds 2 (.string ⟨#[]⟩) = #[.int .i64 code, .slice A flds.length c, .string ⟨#[]⟩, .bool close, .bool true] := by simp
        rw [er2] at kr2
        have kf2 := kf1.far (p := ⟨w.heap.size, 2, none⟩) (by show w5.heap.size + 1 ≠ w.heap.size; omega) (.string ⟨#[]⟩)
        have kb2 := kb1.far (p := ⟨w.heap.size, 2, none⟩) (by show w12.heap.size ≠ w.heap.size; omega) (.string ⟨#[]⟩)
        have hnr : 0 < flds.length → ∀ ad, A3 = some ad → ad.block ≠ w.heap.size := rd1.not_blk kr1 (rsp_apart code _ (by simp) _ _ _)
        have rd2 := (rd1.farB (p := ⟨w.heap.size, 2, none⟩) hnr (.string ⟨#[]⟩))
        have g2 := g1.setCell (p := ⟨w.heap.size, 2, none⟩) (Nat.le_refl _) (.string ⟨#[]⟩)
        have hsz2 : ((((w12.alloc (.cells #[.int .i64 code, .slice A3 flds.length q3, .string ⟨#[]⟩, .bool close, .bool true] 24)).setCell ⟨w5.heap.size + 1, 0, none⟩ (.int .i64 0)).setCell ⟨w5.heap.size + 1, 1, none⟩ (.int .i64 0)).setCell ⟨w.heap.size, 2, none⟩ (.string ⟨#[]⟩)).heap.size = w12.heap.size + 1 := by simp
        have cS := pSame12 ⟨code, flds, [], close, true⟩ A3 A flds.length flds.length q3 c ((((w12.alloc (.cells #[.int .i64 code, .slice A3 flds.length q3, .string ⟨#[]⟩, .bool close, .bool true] 24)).setCell ⟨w5.heap.size + 1, 0, none⟩ (.int .i64 0)).setCell ⟨w5.heap.size + 1, 1, none⟩ (.int .i64 0)).setCell ⟨w.heap.size, 2, none⟩ (.string ⟨#[]⟩)) (rd2.more (by rw [hsz2]; omega)) ((HR.out.below g2).more g2.size) (by omega)
        unfold rspV at cS
        simp only at cS
        rw [show bs [] = (⟨#[]⟩ : ByteArray) from rfl] at cS
        have CS := Lib.hid cS
        have v0 : (w12.alloc (.cells #[.int .i64 code, .slice A3 flds.length q3, .string ⟨#[]⟩, .bool close, .bool true] 24)).cell? ⟨w5.heap.size + 1, 0, none⟩ = some (.int .i64 0) := kfV.cell 0
        have v1 : ((w12.alloc (.cells #[.int .i64 code, .slice A3 flds.length q3, .string ⟨#[]⟩, .bool close, .bool true] 24)).setCell ⟨w5.heap.size + 1, 0, none⟩ (.int .i64 0)).cell? ⟨w5.heap.size + 1, 1, none⟩ = some (.int .i64 0) := (kfV.set_ 0 (.int .i64 0)).cell 1
        have vf0 := kfV.frozen 0
        have vf1 := (kfV.set_ 0 (.int .i64 0)).frozen 1
        have u2 : (((w12.alloc (.cells #[.int .i64 code, .slice A3 flds.length q3, .string ⟨#[]⟩, .bool close, .bool true] 24)).setCell ⟨w5.heap.size + 1, 0, none⟩ (.int .i64 0)).setCell ⟨w5.heap.size + 1, 1, none⟩ (.int .i64 0)).cell? ⟨w.heap.size, 2, none⟩ = some (.string (bs body)) := kr1.cell 2
        have uf2 := kr1.frozen 2
        have x0 : ((((w12.alloc (.cells #[.int .i64 code, .slice A3 flds.length q3, .string ⟨#[]⟩, .bool close, .bool true] 24)).setCell ⟨w5.heap.size + 1, 0, none⟩ (.int .i64 0)).setCell ⟨w5.heap.size + 1, 1, none⟩ (.int .i64 0)).setCell ⟨w.heap.size, 2, none⟩ (.string ⟨#[]⟩)).cell? ⟨w.heap.size, 0, none⟩ = some (.int .i64 code) := kr2.cell 0
        have x1 : ((((w12.alloc (.cells #[.int .i64 code, .slice A3 flds.length q3, .string ⟨#[]⟩, .bool close, .bool true] 24)).setCell ⟨w5.heap.size + 1, 0, none⟩ (.int .i64 0)).setCell ⟨w5.heap.size + 1, 1, none⟩ (.int .i64 0)).setCell ⟨w.heap.size, 2, none⟩ (.string ⟨#[]⟩)).cell? ⟨w.heap.size, 1, none⟩ = some (.slice A flds.length c) := kr2.cell 1
        have x2 : ((((w12.alloc (.cells #[.int .i64 code, .slice A3 flds.length q3, .string ⟨#[]⟩, .bool close, .bool true] 24)).setCell ⟨w5.heap.size + 1, 0, none⟩ (.int .i64 0)).setCell ⟨w5.heap.size + 1, 1, none⟩ (.int .i64 0)).setCell ⟨w.heap.size, 2, none⟩ (.string ⟨#[]⟩)).cell? ⟨w.heap.size, 2, none⟩ = some (.string ⟨#[]⟩) := kr2.cell 2
        have x3 : ((((w12.alloc (.cells #[.int .i64 code, .slice A3 flds.length q3, .string ⟨#[]⟩, .bool close, .bool true] 24)).setCell ⟨w5.heap.size + 1, 0, none⟩ (.int .i64 0)).setCell ⟨w5.heap.size + 1, 1, none⟩ (.int .i64 0)).setCell ⟨w.heap.size, 2, none⟩ (.string ⟨#[]⟩)).cell? ⟨w.heap.size, 3, none⟩ = some (.bool close) := kr2.cell 3
        have x4 : ((((w12.alloc (.cells #[.int .i64 code, .slice A3 flds.length q3, .string ⟨#[]⟩, .bool close, .bool true] 24)).setCell ⟨w5.heap.size + 1, 0, none⟩ (.int .i64 0)).setCell ⟨w5.heap.size + 1, 1, none⟩ (.int .i64 0)).setCell ⟨w.heap.size, 2, none⟩ (.string ⟨#[]⟩)).cell? ⟨w.heap.size, 4, none⟩ = some (.bool true) := kr2.cell 4
        have y0 : ((((w12.alloc (.cells #[.int .i64 code, .slice A3 flds.length q3, .string ⟨#[]⟩, .bool close, .bool true] 24)).setCell ⟨w5.heap.size + 1, 0, none⟩ (.int .i64 0)).setCell ⟨w5.heap.size + 1, 1, none⟩ (.int .i64 0)).setCell ⟨w.heap.size, 2, none⟩ (.string ⟨#[]⟩)).cell? ⟨w12.heap.size, 0, none⟩ = some (.int .i64 code) := kb2.cell 0
        have y1 : ((((w12.alloc (.cells #[.int .i64 code, .slice A3 flds.length q3, .string ⟨#[]⟩, .bool close, .bool true] 24)).setCell ⟨w5.heap.size + 1, 0, none⟩ (.int .i64 0)).setCell ⟨w5.heap.size + 1, 1, none⟩ (.int .i64 0)).setCell ⟨w.heap.size, 2, none⟩ (.string ⟨#[]⟩)).cell? ⟨w12.heap.size, 1, none⟩ = some (.slice A3 flds.length q3) := kb2.cell 1
        have y2 : ((((w12.alloc (.cells #[.int .i64 code, .slice A3 flds.length q3, .string ⟨#[]⟩, .bool close, .bool true] 24)).setCell ⟨w5.heap.size + 1, 0, none⟩ (.int .i64 0)).setCell ⟨w5.heap.size + 1, 1, none⟩ (.int .i64 0)).setCell ⟨w.heap.size, 2, none⟩ (.string ⟨#[]⟩)).cell? ⟨w12.heap.size, 2, none⟩ = some (.string ⟨#[]⟩) := kb2.cell 2
        have y3 : ((((w12.alloc (.cells #[.int .i64 code, .slice A3 flds.length q3, .string ⟨#[]⟩, .bool close, .bool true] 24)).setCell ⟨w5.heap.size + 1, 0, none⟩ (.int .i64 0)).setCell ⟨w5.heap.size + 1, 1, none⟩ (.int .i64 0)).setCell ⟨w.heap.size, 2, none⟩ (.string ⟨#[]⟩)).cell? ⟨w12.heap.size, 3, none⟩ = some (.bool close) := kb2.cell 3
        have y4 : ((((w12.alloc (.cells #[.int .i64 code, .slice A3 flds.length q3, .string ⟨#[]⟩, .bool close, .bool true] 24)).setCell ⟨w5.heap.size + 1, 0, none⟩ (.int .i64 0)).setCell ⟨w5.heap.size + 1, 1, none⟩ (.int .i64 0)).setCell ⟨w.heap.size, 2, none⟩ (.string ⟨#[]⟩)).cell? ⟨w12.heap.size, 4, none⟩ = some (.bool true) := kb2.cell 4
        have KF2 := Lib.hid kf2
        have GX := Lib.hid g2
        have hbz : (bs body).size = body.length := bs_size body
        have hcat : S1 ++ bs body = S := by rw [← HS1.out.1, bs_app, ← HSM.out]; exact HSB.out
        have z2 : ¬ 9223372036854775807 < T1.length + body.length := by omega
        have hE := eqFlt 0 0 0 0
        clear CP g12 hq3 s1 K11 KF11 G11 lt1 lt2 kfV krV kbV rdV gV kf1 kr1 kb1 hnf rd1 g1 kr2 er2 kf2 kb2 hnr rd2 g2 hsz2 cS hr3 K12 KF12 G12 hN hzz
        go_wp2_with fail
        (with_reducible refine (CS.out).mono ?_); rintro e w13 ⟨rfl, g13⟩
        have G13 := Lib.hid (GX.out.trans (g13.mono GX.out.size))
        have k13 := KF2.out.below g13 KF2.out.lt
        have f0 : w13.cell? ⟨w5.heap.size + 1, 0, none⟩ = some (.int .i64 0) := k13.cell 0
        have f1 : w13.cell? ⟨w5.heap.size + 1, 1, none⟩ = some (.int .i64 0) := k13.cell 1
        have CA := Lib.hid (AW.out w13 G13.out)
        clear g13 k13 CS KF2 GX x0 x1 x2 x3 x4 y0 y1 y2 y3 y4 u2 uf2 v0 v1 vf0 vf1
        go_wp2_with fail
        (with_reducible refine (CA.out).mono ?_); rintro e w14 ⟨rfl, g14⟩
        go_wp2_with fail
        go_ret
        exact ⟨rfl, G13.out.trans (g14.mono G13.out.size)⟩
      · have hne : ((E0 : Int) != 0) = true := by rw [bne_iff_ne]; omega
        have heq : ((E0 : Int) == (E0 : Int)) = true := by simp
        have cK := pCheckR ⟨code, flds, body, close, false⟩ A flds.length c w4 ((HR.out.below G4.out).more G4.out.size) (by omega) HL.out (by simp only; omega) (HT.out.below G4.out).r
        unfold rspV at cK
        simp only at cK
        rw [HE0.out] at cK
        have CK := Lib.hid cK
        clear cK
        go_wp2_with fail
        (with_reducible refine (CK.out).mono ?_); rintro e w5 ⟨rfl, g5⟩
        have G5 := Lib.hid (G4.out.trans (g5.mono G4.out.size))
        have CA := Lib.hid (AW.out w5 G5.out)
        clear g5
        go_wp2_with fail
        (with_reducible refine (CA.out).mono ?_); rintro e w6 ⟨rfl, g6⟩
        go_wp2_with fail
        go_ret
        exact ⟨rfl, G5.out.trans (g6.mono G5.out.size)⟩
end Go.Proofs.YthhlnpfcpgfcfaaDoor
