/-
  The bytes of a response: respond.Text.
-/
import Derived.Test.YthhlnpfcpgfcfaaGreatDoorRs2
import Derived.Test.YthhlnpfcpgfcfaaGreatDoorWl
namespace Go.Proofs.YthhlnpfcpgfcfaaGreatDoor
open Go.RowKit

theorem bs_app (l m : List UInt8) : bs l ++ bs m = bs (l ++ m) := by
  apply ba_ext
  show (bs l ++ bs m : ByteArray).data.toList = l ++ m
  rw [ByteArray.data_append, Array.toList_append]; rfl
def textOf (r : Rsp) : List UInt8 := if checkR r = 0 then textR r else []
/-- what stands in front of the fields, and what stands behind them -/
def bufR (r : Rsp) (k : Nat) : List UInt8 := firstR r.code ++ [13, 10] ++ (r.flds.take k).flatMap fldR
theorem bufR_succ (r : Rsp) (k : Nat) (hk : k < r.flds.length) : bufR r (k + 1) = bufR r k ++ fldR r.flds[k] := by
  unfold bufR
  rw [List.take_succ_eq_append_getElem hk, List.flatMap_append]
  simp
theorem bufR_len {r : Rsp} (h : checkR r = 0) (k : Nat) : (bufR r k).length ≤ 60000 := by
  obtain ⟨⟨x, hx, hxc⟩, hf, hm, _⟩ := check_ok h
  have h1 : ∀ x ∈ codesR, (firstR (x.1 : Int)).length ≤ 100 := by decide +kernel
  have h2 := h1 x hx
  rw [hxc] at h2
  have h3 : ∀ (l : List (List UInt8 × List UInt8)), (∀ f ∈ l, mayR f = 0) → (l.flatMap fldR).length ≤ l.length * 1100 := by
    intro l hl
    induction l with
    | nil => simp
    | cons f l ih =>
      have hf0 := hl f (by simp)
      have hlen : f.1.length ≤ 40 ∧ f.2.length ≤ 1024 := by
        unfold mayR at hf0
        split at hf0
        · cases hf0
        · rename_i g
          split at hf0
          · cases hf0
          · refine ⟨?_, by omega⟩
            refine Classical.byContradiction fun hc => g (.inr (.inl (by omega)))
      have := ih fun g hg => hl g (by simp [hg])
      rw [List.flatMap_cons, List.length_append, List.length_cons]
      have e : (fldR f).length = f.1.length + f.2.length + 4 := by simp [fldR]; omega
      omega
  have h4 := h3 (r.flds.take k) (fun f hf => hm f (List.mem_of_mem_take hf))
  have h5 : (r.flds.take k).length ≤ 32 := by rw [List.length_take]; omega
  unfold bufR
  simp only [List.length_append, List.length_cons, List.length_nil]
  omega
theorem textR_buf (r : Rsp) : textR r = bufR r r.flds.length ++ lenR r.body.length ++ [13, 10] ++ (if r.close then closeR ++ [13, 10] else []) ++ [13, 10] ++ (if r.head then [] else r.body) := by
  unfold textR headR bufR; rw [List.take_length]
theorem dec_len (n : Nat) (h : n ≤ 9999) : (Lib.decDigits n).length ≤ 4 := by
  have : ∀ k n, n < 10 ^ (k + 1) → (Lib.decDigits n).length ≤ k + 1 := by
    intro k
    induction k with
    | zero => intro n hn; rw [Lib.decDigits, dif_pos (by simpa using hn)]; simp
    | succ k ih =>
      intro n hn
      rw [Lib.decDigits]
      split
      · simp
      · rw [List.length_append]
        have := ih (n / 10) (by rw [Nat.pow_succ] at hn; omega)
        simp; omega
  exact this 3 n (by omega)
/-- a builder that a call laid at the end of w3, and all that was there before -/
def St (T : TypeId) (w3 : World) (l : List UInt8) (w : World) : Prop := Lib.IsBuilder T 5 w3.heap.size w3.heap.size (Lib.byteCells l) w ∧ Below w3.heap.size w3 w
theorem St.bl {T : TypeId} {w3 w : World} {l : List UInt8} (h : St T w3 l w) : Below w3.heap.size w3 w := h.2
theorem St.fresh (T : TypeId) (w3 : World) : St T w3 [] (w3.alloc (.cells #[.pointer none, .slice none 0 0] T)) := ⟨Lib.fresh_isBuilder T 5 w3, (Below.refl _ _).alloc (Nat.le_refl _) _⟩
theorem St.on {T : TypeId} {w3 w w' : World} {l : List UInt8} (h : St T w3 l w) (hb : Below w.heap.size w w') : St T w3 l w' := ⟨builder_below h.1 hb, h.2.trans (hb.mono h.2.size)⟩
theorem St.wrote {T : TypeId} {w3 w w' : World} {l m : List UInt8} (h : St T w3 l w) (hb : Wrote T w3.heap.size w3.heap.size m w w') : St T w3 m w' := ⟨hb.1, h.2.trans hb.2.1⟩
theorem line_at (w3 w5 : World) (l : List UInt8) (xs : List (List UInt8)) (cs : Array Value) (n c H : Nat) (hs : St 70 w3 l w5) (hcs : cs = (strs xs).toArray) (hn : n = xs.length) (hH : w5.heap.size = H) (hn2 : n ≤ 1000) (hlen : l.length + xs.flatten.length + 2 ≤ 1000000) :
    Calls Tryz.prog 32 #[.pointer (some ⟨w3.heap.size, 0, none⟩), .slice (some ⟨H, 0, none⟩) n c] (w5.alloc (.cells cs 9)) fun e w' => e = .returned (.tuple #[]) ∧ St 70 w3 (l ++ xs.flatten ++ [13, 10]) w' := by
  subst hH hcs
  have h5 := hs.on ((Below.refl _ _).alloc (Nat.le_refl _) (.cells (strs xs).toArray 9))
  exact (pLine w3.heap.size w3.heap.size l (some ⟨w5.heap.size, 0, none⟩) n c xs _ h5.1 hn (.inr ⟨_, rfl, heap_alloc_new _ _⟩) hn2 hlen h5.2.size).mono fun e w' ⟨he, hw⟩ => ⟨he, h5.wrote hw⟩
theorem line_nil (w3 w5 : World) (l : List UInt8) (hs : St 70 w3 l w5) (hlen : l.length + 2 ≤ 1000000) :
    Calls Tryz.prog 32 #[.pointer (some ⟨w3.heap.size, 0, none⟩), .slice none 0 0] w5 fun e w' => e = .returned (.tuple #[]) ∧ St 70 w3 (l ++ [13, 10]) w' :=
  (pLine w3.heap.size w3.heap.size l none 0 0 [] _ hs.1 rfl (.inl rfl) (by omega) (by simpa using hlen) hs.2.size).mono fun e w' ⟨he, hw⟩ => ⟨he, by simpa using hs.wrote hw⟩
set_option maxRecDepth 100000 in
set_option maxHeartbeats 8000000 in
theorem pTextR (r : Rsp) (A : Option Addr) (n c : Nat) (w : World) (hr : Reads w w.heap.size 2 A n (fldsC r.flds)) (hn : n ≤ 1000000) (hl : fldsOkR r.flds) (hb : r.body.length ≤ 1000000) (ht : TabR w) :
    Calls Tryz.prog 8 #[rspV r A n c] w fun e w' => e = .returned (.tuple #[.string (bs (textOf r)), .int .i64 (checkR r : Nat)]) ∧ Below w.heap.size w w' := by
  have b0 : Below w.heap.size w (w.alloc (.cells #[.int .i64 r.code, .slice A n c, .string (bs r.body), .bool r.close, .bool r.head] 24)) := (Below.refl _ _).alloc (Nat.le_refl _) _
  have k0 := Blk.new w 24 #[.int .i64 r.code, .slice A n c, .string (bs r.body), .bool r.close, .bool r.head]
  have cK := pCheckR r A n c (w.alloc (.cells #[.int .i64 r.code, .slice A n c, .string (bs r.body), .bool r.close, .bool r.head] 24)) ((hr.below b0).more b0.size) hn hl hb (ht.below b0)
  obtain rfl := hr.flen
  by_cases hc : checkR r = 0
  · have hck := check_ok hc
    obtain ⟨⟨x, hx, hxc⟩, hf, hm, hbd⟩ := hck
    obtain ⟨i, hi, e1, e2⟩ := codes_at hx
    have hrs := reason_at ⟨i, hi⟩
    simp only at hrs
    rw [e1, hxc] at hrs
    have hT := textR_buf r
    have hbl := fun k => bufR_len hc k
    have hfst : bufR r 0 = [] ++ [[72, 84, 84, 80, 47, 49, 46, 49, 32], Lib.decDigits x.1, [32], codeS i].flatten ++ [13, 10] := by
      unfold bufR firstR; rw [hrs, ← hxc]; simp
    have eO : textOf r = textR r := if_pos hc
    have hsucc := fun k hk => bufR_succ r k hk
    have cN := fun (X : World) (hX : Codes X) => Reason_any r.code X hX
    have eE : errR r.code = 0 := by unfold errR; rw [hrs]; simp
    rw [hrs, eE] at cN
    have hgd : (some (codeS i) : Option (List UInt8)).getD [] = codeS i := rfl
    rw [hgd] at cN
    have hxle : x.1 ≤ 9999 := (show ∀ x ∈ codesR, x.1 ≤ 9999 by decide) x hx
    have hdl := dec_len x.1 hxle
    have hl0 := hbl 0
    rw [hfst] at hl0
    rw [eO, hc]
    rw [hc] at cK
    obtain ⟨m, hm'⟩ : ∃ m, x.1 = m := ⟨_, rfl⟩
    rw [hm'] at hxc hfst hxle hdl hl0
    obtain ⟨Z, hZ⟩ : ∃ Z, bufR r = Z := ⟨_, rfl⟩
    rw [hZ] at hT hbl hfst hsucc
    obtain ⟨RT, hRT⟩ : ∃ RT, textR r = RT := ⟨_, rfl⟩
    rw [hRT] at hT ⊢
    obtain ⟨rs, hrs'⟩ : ∃ rs, codeS i = rs := ⟨_, rfl⟩
    rw [hrs'] at hfst cN hl0
    obtain ⟨code, flds, body, close, head⟩ := r
    simp only at hxc hf hm hbd hT hsucc hr hl hb cK b0 k0 cN
    subst hxc
    unfold rspV at cK ⊢
    simp only at cK ⊢
    have CK := Lib.hid cK
    have B0 := Lib.hid b0
    have K0 := Lib.hid k0
    have HR := Lib.hid hr
    have HT := Lib.hid ht
    have CN := Lib.hid cN
    have HTX := Lib.hid hT
    have HFS := Lib.hid hfst
    have HSU := Lib.hid hsucc
    have HBL := Lib.hid hbl
    clear cK b0 k0 hr ht cN hT hfst hsucc hbl hc hrs hZ hRT hrs' eO eE hm hgd e1 e2 hi hx hm' hl0
    go_enter Tryz.func8, Tryz.ntmps8
    go_wp2_with fail
    (with_reducible refine (CK.out).mono ?_); rintro e w1 ⟨rfl, g1⟩
    have K1 := K0.out.below g1 K0.out.lt
    have G1 := Lib.hid (B0.out.trans (g1.mono B0.out.size))
    have c0 : w1.cell? ⟨w.heap.size, 0, none⟩ = some (.int .i64 m) := K1.cell 0
    have HK1 := Lib.hid K1
    clear K1 g1
    go_wp2_with fail
    (with_reducible refine (CN.out _ (HT.out.codes.below G1.out)).mono ?_); rintro e w3 ⟨rfl, g3⟩
    have K3 := Lib.hid (HK1.out.below g3 HK1.out.lt)
    have G3 := Lib.hid (G1.out.trans (g3.mono G1.out.size))
    clear g3 HK1 G1 CK c0 B0 K0 CN
    have S4 := Lib.hid (St.fresh 70 w3)
    have kb : ∀ X, Below w3.heap.size w3 X → Blk X w.heap.size 24 #[.int .i64 m, .slice A flds.length c, .string (bs body), .bool close, .bool head] ∧ Tabs X ∧ Reads X w.heap.size 2 A flds.length (fldsC flds) ∧ Below w.heap.size w X := fun X hX => ⟨K3.out.below hX K3.out.lt, (HT.out.tabs.below G3.out).below hX, (HR.out.below (G3.out.trans (hX.mono G3.out.size))), G3.out.trans (hX.mono G3.out.size)⟩
    have KB := Lib.hid kb
    clear kb HR HT K3 G3
    have c0 : (w3.alloc (.cells #[.pointer none, .slice none 0 0] 70)).cell? ⟨w.heap.size, 0, none⟩ = some (.int .i64 m) := (KB.out _ S4.out.bl).1.cell 0
    go_wp2_with fail
    (with_reducible refine (Itoa_any m (by omega) _ (KB.out _ S4.out.bl).2.1).mono ?_); rintro e w5 ⟨rfl, g5⟩
    have S5 := Lib.hid (S4.out.on g5)
    clear g5 S4 c0
    have cL := line_at w3 w5 [] [[72, 84, 84, 80, 47, 49, 46, 49, 32], Lib.decDigits m, [32], rs] #[.string ⟨#[72, 84, 84, 80, 47, 49, 46, 49, 32]⟩, .string ⟨(Lib.decDigits m).toArray⟩, .string ⟨#[32]⟩, .string (bs rs)] 4 4 _ S5.out rfl rfl rfl (by omega) (by have := HBL.out 0; rw [HFS.out] at this; simp only [List.length_append, List.length_cons, List.length_nil] at this ⊢; omega)
    have CL := Lib.hid cL
    clear cL S5
    go_wp2_with fail
    (with_reducible refine (CL.out).mono ?_); rintro e w7 ⟨rfl, s7⟩
    rw [← HFS.out] at s7
    have S7 := Lib.hid s7
    have c1 : w7.cell? ⟨w.heap.size, 1, none⟩ = some (.slice A flds.length c) := (KB.out _ s7.bl).1.cell 1
    clear s7 CL
    go_wp2_with fail
    go_loopw [30] (fun i wr => ∃ k : Nat, i = .int .i64 k ∧ k ≤ flds.length ∧ Hid (St 70 w3 (Z k) wr)) (fun i _ => flds.length - (intOf i).toNat)
    case atStart => exact ⟨0, rfl, by omega, S7⟩
    case round =>
      obtain ⟨k, rfl, hk, hS⟩ := hrel
      rename World => wr
      clear c1
      by_cases hlt : k < flds.length
      · obtain ⟨b, o, rfl, hbl, c2, c3⟩ := (KB.out _ hS.out.bl).2.2.1.fld k hlt
        have hsu := HSU.out k hlt
        obtain ⟨f, hf⟩ : ∃ f, flds[k] = f := ⟨_, rfl⟩
        rw [hf] at c2 c3 hsu
        have hln := HBL.out (k + 1)
        rw [hsu] at hln
        have hft : Z k ++ fldR f = Z k ++ [f.1, [58, 32], f.2].flatten ++ [13, 10] := by simp [fldR]
        rw [hft] at hsu hln
        have g2 : Below wr.heap.size wr (wr.alloc (.cells #[.string (bs f.1), .string (bs f.2)] 57)) := (Below.refl _ _).alloc (Nat.le_refl _) _
        have S8 := Lib.hid (hS.out.on g2)
        have cL := line_at w3 (wr.alloc (.cells #[.string (bs f.1), .string (bs f.2)] 57)) (Z k) [f.1, [58, 32], f.2] #[.string (bs f.1), .string ⟨#[58, 32]⟩, .string (bs f.2)] 3 3 (wr.heap.size + 1) S8.out rfl rfl (by simp) (by omega) (by simp only [List.length_append, List.length_cons, List.length_nil] at hln ⊢; omega)
        have CL := Lib.hid cL
        have HSK := Lib.hid hsu
        have i0 : (0 : Int) ≤ (k : Int) := by omega
        have i1 : (k : Int) < (flds.length : Int) := by omega
        clear cL hsu hft hln g2 hf S7 S8
        go_wp2_with fail
        (with_reducible refine (CL.out).mono ?_); rintro e w9 ⟨rfl, s9⟩
        rw [← HSK.out] at s9
        have S9 := Lib.hid s9
        clear s9
        go_wp2_with fail
        go_roundw
        case rel => exact ⟨k + 1, by go_num, by omega, S9⟩
        case measure => simp [intOf]; omega
      · obtain rfl : k = flds.length := by omega
        have hd : decide ((flds.length : Int) < (flds.length : Int)) = false := by simp
        have zb := bs_size body
        have hlr : (lenR body.length).length ≤ 20 := by unfold lenR; have := dec_len body.length (by omega); simp only [List.length_append, List.length_cons, List.length_nil]; omega
        have hzl := HBL.out flds.length
        have c2 : wr.cell? ⟨w.heap.size, 2, none⟩ = some (.string (bs body)) := (KB.out _ hS.out.bl).1.cell 2
        have cI := Itoa_any body.length (by omega) wr (KB.out _ hS.out.bl).2.1
        have CI := Lib.hid cI
        clear cI
        go_wp2_with fail
        (with_reducible refine (CI.out).mono ?_); rintro e w10 ⟨rfl, g10⟩
        have S10 := Lib.hid (hS.out.on g10)
        have hft : Z flds.length ++ [[67, 111, 110, 116, 101, 110, 116, 45, 76, 101, 110, 103, 116, 104, 58, 32], Lib.decDigits body.length].flatten ++ [13, 10] = Z flds.length ++ lenR body.length ++ [13, 10] := by simp [lenR]
        have hfl : ([[67, 111, 110, 116, 101, 110, 116, 45, 76, 101, 110, 103, 116, 104, 58, 32], Lib.decDigits body.length] : List (List UInt8)).flatten.length ≤ 20 := by
          have : ([[67, 111, 110, 116, 101, 110, 116, 45, 76, 101, 110, 103, 116, 104, 58, 32], Lib.decDigits body.length] : List (List UInt8)).flatten = lenR body.length := by simp [lenR]
          rw [this]; exact hlr
        have cL := line_at w3 w10 (Z flds.length) [[67, 111, 110, 116, 101, 110, 116, 45, 76, 101, 110, 103, 116, 104, 58, 32], Lib.decDigits body.length] #[.string ⟨#[67, 111, 110, 116, 101, 110, 116, 45, 76, 101, 110, 103, 116, 104, 58, 32]⟩, .string ⟨(Lib.decDigits body.length).toArray⟩] 2 2 _ S10.out rfl rfl rfl (by omega) (by omega)
        rw [hft] at cL
        have CL := Lib.hid cL
        clear cL hft g10 CI c2 hfl
        go_wp2_with fail
        (with_reducible refine (CL.out).mono ?_); rintro e w11 ⟨rfl, s11⟩
        have c3 : w11.cell? ⟨w.heap.size, 3, none⟩ = some (.bool close) := (KB.out _ s11.bl).1.cell 3
        obtain ⟨L1, hL1⟩ : ∃ L, Z flds.length ++ lenR body.length ++ [13, 10] = L := ⟨_, rfl⟩
        have hL1n : L1.length ≤ 60030 := by rw [← hL1]; simp only [List.length_append, List.length_cons, List.length_nil]; omega
        rw [hL1] at s11
        have HT1 : Hid (RT = L1 ++ (if close = true then closeR ++ [13, 10] else []) ++ [13, 10] ++ (if head = true then [] else body)) := by rw [HTX.out, hL1]; rfl
        have S11 := Lib.hid s11
        clear s11 CL hL1 hzl hlr S10 HTX HSU HFS HBL hS S7
        have last : ∀ (L2 : List UInt8), L2.length ≤ 60100 → (if close = true then L1 ++ closeR ++ [13, 10] else L1) = L2 → RT = L2 ++ [13, 10] ++ (if head = true then [] else body) := by
          intro L2 _ h
          rw [HT1.out, ← h]
          cases close <;> simp
        cases close with
        | true =>
          have cL := line_at w3 w11 L1 [closeR] #[.string ⟨#[67, 111, 110, 110, 101, 99, 116, 105, 111, 110, 58, 32, 99, 108, 111, 115, 101]⟩] 1 1 _ S11.out rfl rfl rfl (by omega) (by rw [show ([closeR] : List (List UInt8)).flatten.length = 17 from rfl]; omega)
          have hl2 : (L1 ++ [closeR].flatten ++ [13, 10]).length ≤ 60100 := by
            rw [List.length_append, List.length_append, show ([closeR] : List (List UInt8)).flatten.length = 17 from rfl]
            simp only [List.length_cons, List.length_nil]; omega
          have hR := last (L1 ++ [closeR].flatten ++ [13, 10]) hl2 (by simp)
          obtain ⟨L2, hL2⟩ : ∃ L, L1 ++ [closeR].flatten ++ [13, 10] = L := ⟨_, rfl⟩
          rw [hL2] at cL hR hl2
          have CL := Lib.hid cL
          have HRR := Lib.hid hR
          clear cL last hR hL2 HT1
          go_wp2_with fail
          (with_reducible refine (CL.out).mono ?_); rintro e w12 ⟨rfl, s12⟩
          have CL2 := Lib.hid (line_nil w3 w12 L2 s12 (by omega))
          clear s12 c3
          go_wp2_with fail
          (with_reducible refine (CL2.out).mono ?_); rintro e w13 ⟨rfl, s13⟩
          have c4 : w13.cell? ⟨w.heap.size, 4, none⟩ = some (.bool head) := (KB.out _ s13.bl).1.cell 4
          cases head with
          | true =>
            have hRT : RT = L2 ++ [13, 10] := by rw [HRR.out]; simp
            have CS := Lib.hid (readT w3.heap.size w3.heap.size (L2 ++ [13, 10]) w13 s13.1 (by simp))
            have HX := Lib.hid (And.intro hRT (KB.out _ s13.bl).2.2.2)
            clear hRT s13 HRR
            go_wp2_with fail
            (with_reducible refine (CS.out).mono ?_); rintro e w14 ⟨rfl, g14⟩
            go_wp2_with fail
            go_ret2
            exact ⟨by rw [HX.out.1]; rfl, HX.out.2.trans (g14.mono (KB.out w3 (Below.refl _ _)).2.2.2.size)⟩
          | false =>
            have hRT : RT = L2 ++ 13 :: 10 :: body := by rw [HRR.out]; simp
            have c5 : w13.cell? ⟨w.heap.size, 2, none⟩ = some (.string (bs body)) := (KB.out _ s13.bl).1.cell 2
            have cW := writeT bty_writer w3.heap.size w3.heap.size (L2 ++ [13, 10]) (bs body) w13 s13.1 (by simp only [List.length_append, List.length_cons, List.length_nil]; omega) s13.bl.size
            have CW := Lib.hid cW
            have S13 := Lib.hid s13
            have HX := Lib.hid hRT
            clear hRT s13 HRR cW
            go_wp2_with fail
            (with_reducible refine (CW.out).mono ?_); rintro e w14 ⟨⟨q, rfl⟩, w14w⟩
            have s14 := S13.out.wrote w14w
            have CS := Lib.hid (readT w3.heap.size w3.heap.size (L2 ++ 13 :: 10 :: body) w14 (by have := s14.1; simpa [bs_list] using this) (by simp))
            have HY := Lib.hid (KB.out _ s14.bl).2.2.2
            clear s14 w14w c4 c5
            go_wp2_with fail
            (with_reducible refine (CS.out).mono ?_); rintro e w15 ⟨rfl, g15⟩
            go_wp2_with fail
            go_ret2
            exact ⟨by rw [HX.out]; rfl, HY.out.trans (g15.mono (KB.out w3 (Below.refl _ _)).2.2.2.size)⟩
        | false =>
          have hR := last L1 (by omega) (by simp)
          have CL2 := Lib.hid (line_nil w3 w11 L1 S11.out (by omega))
          have HRR := Lib.hid hR
          have hl2 : L1.length ≤ 60100 := by omega
          clear last hR HT1
          go_wp2_with fail
          (with_reducible refine (CL2.out).mono ?_); rintro e w13 ⟨rfl, s13⟩
          obtain ⟨L2, hL2⟩ : ∃ L, L1 = L := ⟨_, rfl⟩
          rw [hL2] at s13 HRR hl2
          clear hL1n hL2
          have c4 : w13.cell? ⟨w.heap.size, 4, none⟩ = some (.bool head) := (KB.out _ s13.bl).1.cell 4
          cases head with
          | true =>
            have hRT : RT = L2 ++ [13, 10] := by rw [HRR.out]; simp
            have CS := Lib.hid (readT w3.heap.size w3.heap.size (L2 ++ [13, 10]) w13 s13.1 (by simp))
            have HX := Lib.hid (And.intro hRT (KB.out _ s13.bl).2.2.2)
            clear hRT s13 HRR
            go_wp2_with fail
            (with_reducible refine (CS.out).mono ?_); rintro e w14 ⟨rfl, g14⟩
            go_wp2_with fail
            go_ret2
            exact ⟨by rw [HX.out.1]; rfl, HX.out.2.trans (g14.mono (KB.out w3 (Below.refl _ _)).2.2.2.size)⟩
          | false =>
            have hRT : RT = L2 ++ 13 :: 10 :: body := by rw [HRR.out]; simp
            have c5 : w13.cell? ⟨w.heap.size, 2, none⟩ = some (.string (bs body)) := (KB.out _ s13.bl).1.cell 2
            have cW := writeT bty_writer w3.heap.size w3.heap.size (L2 ++ [13, 10]) (bs body) w13 s13.1 (by simp only [List.length_append, List.length_cons, List.length_nil]; omega) s13.bl.size
            have CW := Lib.hid cW
            have S13 := Lib.hid s13
            have HX := Lib.hid hRT
            clear hRT s13 HRR cW
            go_wp2_with fail
            (with_reducible refine (CW.out).mono ?_); rintro e w14 ⟨⟨q, rfl⟩, w14w⟩
            have s14 := S13.out.wrote w14w
            have CS := Lib.hid (readT w3.heap.size w3.heap.size (L2 ++ 13 :: 10 :: body) w14 (by have := s14.1; simpa [bs_list] using this) (by simp))
            have HY := Lib.hid (KB.out _ s14.bl).2.2.2
            clear s14 w14w c4 c5
            go_wp2_with fail
            (with_reducible refine (CS.out).mono ?_); rintro e w15 ⟨rfl, g15⟩
            go_wp2_with fail
            go_ret2
            exact ⟨by rw [HX.out]; rfl, HY.out.trans (g15.mono (KB.out w3 (Below.refl _ _)).2.2.2.size)⟩
  · have eO : textOf r = [] := if_neg hc
    rw [eO]
    have hne : ((checkR r : Int) != 0) = true := by rw [bne_iff_ne]; omega
    obtain ⟨E, hE⟩ : ∃ E, checkR r = E := ⟨_, rfl⟩
    rw [hE] at hne cK ⊢
    unfold rspV at cK ⊢
    have CK := Lib.hid cK
    have B0 := Lib.hid b0
    clear cK b0 k0 hr hl hb ht hE hc eO
    obtain ⟨code, flds, body, close, head⟩ := r
    simp only at *
    go_enter Tryz.func8, Tryz.ntmps8
    go_wp2_with fail
    (with_reducible refine (CK.out).mono ?_); rintro e w1 ⟨rfl, g1⟩
    go_wp2_with fail
    go_ret2
    exact ⟨rfl, B0.out.trans (g1.mono B0.out.size)⟩
end Go.Proofs.YthhlnpfcpgfcfaaGreatDoor
