/-
  HandlerKnown of the statements on handlers: true.
-/
import Derived.Test.YthhlnpfcpgfcfaaGreatDoorHa14
import Derived.Deep.RegionHeld3
namespace Go.Proofs.YthhlnpfcpgfcfaaGreatDoor
open Go.RowKit

theorem app_two {W : World} {b g : Nat} (x y : Fld) (hx : Blk W b 57 #[.string (bs x.1), .string (bs x.2)]) (hy : Blk W g 57 #[.string (bs y.1), .string (bs y.2)]) :
    ∃ A c w5, (Builtin.append_ #[22, 22] 22 #[.slice (some ⟨b, 0, none⟩) 1 1, .slice (some ⟨g, 0, none⟩) 1 1]).run Tryz.prog W = .ok (.slice A 2 c) w5 ∧ w5.ownsRow W.heap.size 57 2 (.slice A 2 c) 2 (fldsC [x, y]) ∧ Below W.heap.size W w5 := by
  obtain ⟨i0, hi, hz0, hz1, hz2⟩ := info_parts infoFldR
  have hc : ∀ {q : Nat} {z : Fld}, Blk W q 57 #[.string (bs z.1), .string (bs z.2)] → ∀ j u, (fldsC [z])[j]? = some u → W.cell? (Addr.add ⟨q, 0, none⟩ j) = some u := by
    intro q z hq j u hu
    have e : (Addr.add ⟨q, 0, none⟩ j) = ⟨q, j, none⟩ := by unfold Addr.add; split <;> simp_all
    rw [e, hq.cell j]
    simpa [fldsC] using hu
  obtain ⟨v', w', hrun, hown, hg⟩ := run_append_arg_grows (P := Tryz.prog) W 22 22 57 i0 (.agg #[.string .empty, .string .empty]) 2 32 Tryz.underlying22 hi hz0 hz1 hz2 rfl (by decide) ⟨b, 0, none⟩ 1 1 (fldsC [x]) (fldsC_len [x]) (hc hx) ⟨g, 0, none⟩ 1 1 (fldsC [y]) (fldsC_len [y]) (hc hy) (by omega) (by unfold maxLen; omega) (by omega)
  have hown2 : w'.ownsRow W.heap.size 57 2 v' 2 (fldsC [x, y]) := by
    have e : fldsC [x, y] = fldsC [x] ++ fldsC [y] := by simp [fldsC]
    rw [e]; exact hown
  obtain ⟨A, c, rfl⟩ := own_slice hown2
  exact ⟨A, c, w', hrun, hown2, (Below.refl _ W).grown hg (Nat.le_refl _) (by simp)⟩

theorem readsF1 {X : World} {b : Nat} (y : Fld) (h : Blk X b 57 #[.string (bs y.1), .string (bs y.2)]) : Reads X X.heap.size 2 (some ⟨b, 0, none⟩) 1 (fldsC [y]) := by
  refine ⟨rfl, fun _ => ⟨_, rfl, h.lt, fun j u hj => ?_⟩⟩
  have e : (Addr.add ⟨b, 0, none⟩ j) = ⟨b, j, none⟩ := by unfold Addr.add; split <;> simp_all
  rw [e, h.cell j]
  simpa [fldsC] using hj
theorem own_leH {w : World} {base base' size n : Nat} {e : TypeId} {v : Value} {xs : List Value} (h : w.ownsRow base e size v n xs) (hb : base' ≤ base) : w.ownsRow base' e size v n xs :=
  ⟨h.1, h.2.imp id fun ⟨g, cap, cur, e1, hg, r⟩ => ⟨g, cap, cur, e1, Nat.le_trans hb hg, r⟩⟩
theorem step_append_run_g {P : Program} {w w' : World} {ops : Array Oper} {o : Oper} {a : Act} {K : Act → World → Prop} {Q : Exit → Act → World → Prop} {E : Prop} {t : TypeId} {v y v' : Value}
    (hw : Region.wanted o (yielded ops a.tmps) = true) (hrun : (Builtin.append_ #[t, t] t #[v, y]).run P w = .ok v' w') (s x : Operand)
    (ho : o.op = .call { callee := .builtin .append, args := #[s, x], argTypes := #[t, t] }) (hty : o.type = t) (hs : a.eval s = v) (hx : a.eval x = y)
    (h : K (a.put o.dst v') w') : if Region.wanted o (yielded ops a.tmps) = true then Oper.wp P o a w K Q else E := by
  rw [if_pos hw]
  unfold Oper.wp
  simp only [execOp, ho, resolve, invoke, builtin, Sem.run_bind, Sem.run_pure, Result.andThen_ok, List.map_toArray, List.map_cons, List.map_nil, hs, hx, hty, hrun]
  exact h
theorem readsS {X : World} {b : Nat} {s : List UInt8} (h : Blk X b 9 #[.string (bs s)]) : Reads X X.heap.size 1 (some ⟨b, 0, none⟩) 1 (strs [s]) := by
  refine ⟨rfl, fun _ => ⟨_, rfl, h.lt, fun j u hj => ?_⟩⟩
  have e : (Addr.add ⟨b, 0, none⟩ j) = ⟨b, j, none⟩ := by unfold Addr.add; split <;> simp_all
  rw [e, h.cell j]
  simpa [strs] using hj
def f00 : FoundP := ⟨false, [], 0, [], [], [], []⟩
def rM (m : List UInt8) : ReqP := ⟨m, [], [], []⟩
def oK (k c : Int) (l : List UInt8) : OutP := ⟨k, ⟨#[]⟩, ⟨#[]⟩, c, l, 0⟩
theorem light00 (m : List UInt8) (h : m.length ≤ 300) : LightF f00 (rM m) :=
  ⟨by simp [f00], by simp [f00], by simp [f00], by simp [f00], by simp [f00], h, by simp [rM], by simp [rM], by simp [rM], fun x hx => by simp [f00] at hx, fun x hx => by simp [f00] at hx⟩
def fE : FoundP := ⟨true, [], 2, [], [[119]], [[98]], []⟩
def rE : ReqP := ⟨[71, 69, 84], [47, 97], [120, 61, 49], []⟩
theorem lightE : LightF fE rE :=
  ⟨by simp [fE], by simp [fE], by simp [fE], by simp [fE], by simp [fE], by simp [rE], by simp [rE], by simp [rE], by simp [rE], fun x hx => by simp [fE] at hx; subst hx; simp, fun x hx => by simp [fE] at hx; subst hx; simp⟩
theorem kn_p1 : pageT 200 = ([50, 48, 48, 32, 79, 75, 10], 0) := by decide +kernel
theorem kn_p2 : pageT 999 = ([], 10) := by decide +kernel
theorem kn_s1 : bodyT (fnd 1 [104, 105] []) r0 = ([104, 105], 0) := by decide +kernel
theorem kn_s2 : bodyT fE rE = ([71, 69, 84, 32, 47, 97, 63, 120, 61, 49, 10, 119, 61, 98, 10], 0) := by decide +kernel
theorem kn_s3 : bodyT (fnd 3 [47] [97]) r0 = ([102, 105, 108, 101, 32, 47, 97, 10], 0) := by decide +kernel
theorem kn_s4 : bodyT (fnd 3 [47, 115, 114, 118] []) r0 = ([102, 105, 108, 101, 32, 47, 115, 114, 118, 10], 0) := by decide +kernel
theorem kn_u1 : underT [47, 115, 114, 118] [46, 46, 47, 120] = ([], 3) := by decide +kernel
theorem kn_u2 : underT [115, 114, 118] [97] = ([], 3) := by decide +kernel
theorem kn_a1 : answerT (rM [71, 69, 84]) 3 0 [] f00 false = (⟨403, [textF], [52, 48, 51, 32, 70, 111, 114, 98, 105, 100, 100, 101, 110, 10], false, false⟩, 0) := by kernel_rfl
theorem kn_a2 : answerT (rM [71, 69, 84]) 2 302 [104, 116, 116, 112, 58, 47, 47, 97, 47, 98] f00 true = (⟨302, [(locN, [104, 116, 116, 112, 58, 47, 47, 97, 47, 98]), textF], [], true, false⟩, 0) := by kernel_rfl
theorem kn_c6 : codeT [] 6 0 f00 = (0, 10) := by decide +kernel
theorem kn_g1 : codeT [71, 69, 84] 1 0 f00 = (404, 0) := by decide +kernel
theorem kn_g2 : codeT [72, 69, 65, 68] 4 0 f00 = (410, 0) := by decide +kernel

set_option maxRecDepth 100000 in
set_option maxHeartbeats 8000000 in
theorem pKnown42 (w : World) (hT : Tab42 w) (hSp : Spaces w) : Calls Tryz.prog 23 #[] w fun e w' => e = .returned (.bool true) ∧ Below w.heap.size w w' := by
  have CP1 := Lib.hid (show ∀ X, Tab42 X → Calls Tryz.prog 37 #[.int .i64 200] X fun e w' => e = .returned (.tuple #[.string ⟨#[50, 48, 48, 32, 79, 75, 10]⟩, .int .i64 0]) ∧ Below X.heap.size X w' from fun X hX => by have := pPage 200 X hX; rw [kn_p1] at this; exact this)
  have CP2 := Lib.hid (show ∀ X, Tab42 X → Calls Tryz.prog 37 #[.int .i64 999] X fun e w' => e = .returned (.tuple #[.string ⟨#[]⟩, .int .i64 10]) ∧ Below X.heap.size X w' from fun X hX => by have := pPage 999 X hX; rw [kn_p2] at this; exact this)
  have CF1 := Lib.hid (show ∀ X, Calls Tryz.prog 39 #[.int .i64 1, .string ⟨#[104, 105]⟩, .string ⟨#[]⟩] X fun e w' => e = .returned (.agg #[.bool true, .slice none 0 0, .int .i64 1, .string ⟨#[104, 105]⟩, .slice none 0 0, .slice none 0 0, .string ⟨#[]⟩]) ∧ Below X.heap.size X w' from fun X => pFound 1 [104, 105] [] X)
  have CS1 := Lib.hid (show ∀ X, Calls Tryz.prog 38 #[.agg #[.bool true, .slice none 0 0, .int .i64 1, .string ⟨#[104, 105]⟩, .slice none 0 0, .slice none 0 0, .string ⟨#[]⟩], .agg #[.string ⟨#[]⟩, .string ⟨#[]⟩, .string ⟨#[]⟩, .string ⟨#[]⟩, .slice none 0 0, .string ⟨#[]⟩], .string ⟨#[104, 105]⟩] X fun e w' => e = .returned (.bool true) ∧ Below X.heap.size X w' from fun X => says_fnd 1 [104, 105] [] _ X (by decide) (by decide) kn_s1)
  have CF3 := Lib.hid (show ∀ X, Calls Tryz.prog 39 #[.int .i64 3, .string ⟨#[47]⟩, .string ⟨#[97]⟩] X fun e w' => e = .returned (.agg #[.bool true, .slice none 0 0, .int .i64 3, .string ⟨#[47]⟩, .slice none 0 0, .slice none 0 0, .string ⟨#[97]⟩]) ∧ Below X.heap.size X w' from fun X => pFound 3 [47] [97] X)
  have CS3 := Lib.hid (show ∀ X, Calls Tryz.prog 38 #[.agg #[.bool true, .slice none 0 0, .int .i64 3, .string ⟨#[47]⟩, .slice none 0 0, .slice none 0 0, .string ⟨#[97]⟩], .agg #[.string ⟨#[]⟩, .string ⟨#[]⟩, .string ⟨#[]⟩, .string ⟨#[]⟩, .slice none 0 0, .string ⟨#[]⟩], .string ⟨#[102, 105, 108, 101, 32, 47, 97, 10]⟩] X fun e w' => e = .returned (.bool true) ∧ Below X.heap.size X w' from fun X => says_fnd 3 [47] [97] _ X (by decide) (by decide) kn_s3)
  have CF4 := Lib.hid (show ∀ X, Calls Tryz.prog 39 #[.int .i64 3, .string ⟨#[47, 115, 114, 118]⟩, .string ⟨#[]⟩] X fun e w' => e = .returned (.agg #[.bool true, .slice none 0 0, .int .i64 3, .string ⟨#[47, 115, 114, 118]⟩, .slice none 0 0, .slice none 0 0, .string ⟨#[]⟩]) ∧ Below X.heap.size X w' from fun X => pFound 3 [47, 115, 114, 118] [] X)
  have CS4 := Lib.hid (show ∀ X, Calls Tryz.prog 38 #[.agg #[.bool true, .slice none 0 0, .int .i64 3, .string ⟨#[47, 115, 114, 118]⟩, .slice none 0 0, .slice none 0 0, .string ⟨#[]⟩], .agg #[.string ⟨#[]⟩, .string ⟨#[]⟩, .string ⟨#[]⟩, .string ⟨#[]⟩, .slice none 0 0, .string ⟨#[]⟩], .string ⟨#[102, 105, 108, 101, 32, 47, 115, 114, 118, 10]⟩] X fun e w' => e = .returned (.bool true) ∧ Below X.heap.size X w' from fun X => says_fnd 3 [47, 115, 114, 118] [] _ X (by decide) (by decide) kn_s4)
  have CE := Lib.hid (show ∀ X b c, Blk X b 9 #[.string ⟨#[119]⟩] → Blk X c 9 #[.string ⟨#[98]⟩] → Calls Tryz.prog 38 #[.agg #[.bool true, .slice none 0 0, .int .i64 2, .string ⟨#[]⟩, .slice (some ⟨b, 0, none⟩) 1 1, .slice (some ⟨c, 0, none⟩) 1 1, .string ⟨#[]⟩], .agg #[.string ⟨#[71, 69, 84]⟩, .string ⟨#[47, 97]⟩, .string ⟨#[120, 61, 49]⟩, .string ⟨#[]⟩, .slice none 0 0, .string ⟨#[]⟩], .string ⟨#[71, 69, 84, 32, 47, 97, 63, 120, 61, 49, 10, 119, 61, 98, 10]⟩] X fun e w' => e = .returned (.bool true) ∧ Below X.heap.size X w' from fun X b c hb hc => pSays fE rE none (some ⟨b, 0, none⟩) (some ⟨c, 0, none⟩) none 0 1 1 0 0 ⟨#[]⟩ _ X lightE (readsS hb) (readsS hc) (by rw [kn_s2]) (by rw [kn_s2]))
  have CU1 := Lib.hid (show ∀ X, Tab42 X → Calls Tryz.prog 54 #[.string ⟨#[47, 115, 114, 118]⟩, .string ⟨#[46, 46, 47, 120]⟩] X fun e w' => e = .returned (.tuple #[.string ⟨#[]⟩, .int .i64 3]) ∧ Below X.heap.size X w' from fun X hX => by have := pUnder [47, 115, 114, 118] [46, 46, 47, 120] X (by decide) (by decide) hX; rw [kn_u1] at this; exact this)
  have CU2 := Lib.hid (show ∀ X, Tab42 X → Calls Tryz.prog 54 #[.string ⟨#[115, 114, 118]⟩, .string ⟨#[97]⟩] X fun e w' => e = .returned (.tuple #[.string ⟨#[]⟩, .int .i64 3]) ∧ Below X.heap.size X w' from fun X hX => by have := pUnder [115, 114, 118] [97] X (by decide) (by decide) hX; rw [kn_u2] at this; exact this)
  have CA1 := Lib.hid (show ∀ X, Tab42 X → Spaces X → Calls Tryz.prog 19 #[.agg #[.string ⟨#[71, 69, 84]⟩, .string ⟨#[]⟩, .string ⟨#[]⟩, .string ⟨#[]⟩, .slice none 0 0, .string ⟨#[]⟩], .agg #[.int .i64 3, .string ⟨#[]⟩, .string ⟨#[]⟩, .int .i64 0, .string ⟨#[]⟩, .int .i64 0], .agg #[.bool false, .slice none 0 0, .int .i64 0, .string ⟨#[]⟩, .slice none 0 0, .slice none 0 0, .string ⟨#[]⟩], .bool false] X fun e w' => ∃ A c, e = .returned (.tuple #[.agg #[.int .i64 403, .slice A 1 c, .string ⟨#[52, 48, 51, 32, 70, 111, 114, 98, 105, 100, 100, 101, 110, 10]⟩, .bool false, .bool false], .int .i64 0]) ∧ Reads w' w'.heap.size 2 A 1 (fldsC [textF]) ∧ Below X.heap.size X w' from fun X hX hS => by have := pAnswer f00 (rM [71, 69, 84]) (oK 3 0 []) none none none none 0 0 0 0 0 ⟨#[]⟩ false X (light00 _ (by decide)) (by decide) Reads.none_ Reads.none_ hX hS; rw [ans_ok kn_a1] at this; exact this)
  have CA2 := Lib.hid (show ∀ X, Tab42 X → Spaces X → Calls Tryz.prog 19 #[.agg #[.string ⟨#[71, 69, 84]⟩, .string ⟨#[]⟩, .string ⟨#[]⟩, .string ⟨#[]⟩, .slice none 0 0, .string ⟨#[]⟩], .agg #[.int .i64 2, .string ⟨#[]⟩, .string ⟨#[]⟩, .int .i64 302, .string ⟨#[104, 116, 116, 112, 58, 47, 47, 97, 47, 98]⟩, .int .i64 0], .agg #[.bool false, .slice none 0 0, .int .i64 0, .string ⟨#[]⟩, .slice none 0 0, .slice none 0 0, .string ⟨#[]⟩], .bool true] X fun e w' => ∃ A c, e = .returned (.tuple #[.agg #[.int .i64 302, .slice A 2 c, .string ⟨#[]⟩, .bool true, .bool false], .int .i64 0]) ∧ Reads w' w'.heap.size 2 A 2 (fldsC [(locN, [104, 116, 116, 112, 58, 47, 47, 97, 47, 98]), textF]) ∧ Below X.heap.size X w' from fun X hX hS => by have := pAnswer f00 (rM [71, 69, 84]) (oK 2 302 [104, 116, 116, 112, 58, 47, 47, 97, 47, 98]) none none none none 0 0 0 0 0 ⟨#[]⟩ true X (light00 _ (by decide)) (by decide) Reads.none_ Reads.none_ hX hS; rw [ans_ok kn_a2] at this; exact this)
  have CC6 := Lib.hid (show ∀ X, Calls Tryz.prog 15 #[.agg #[.string ⟨#[]⟩, .string ⟨#[]⟩, .string ⟨#[]⟩, .string ⟨#[]⟩, .slice none 0 0, .string ⟨#[]⟩], .agg #[.int .i64 6, .string ⟨#[]⟩, .string ⟨#[]⟩, .int .i64 0, .string ⟨#[]⟩, .int .i64 0], .agg #[.bool false, .slice none 0 0, .int .i64 0, .string ⟨#[]⟩, .slice none 0 0, .slice none 0 0, .string ⟨#[]⟩]] X fun e w' => e = .returned (.tuple #[.int .i64 0, .int .i64 10]) ∧ Below X.heap.size X w' from fun X => by have := pCodeH f00 r0 (oK 6 0 []) none none none none 0 0 0 0 0 ⟨#[]⟩ X (light00 [] (by decide)).fok; simp only [show (r0.method) = [] from rfl, show (oK 6 0 []).kind = 6 from rfl, show (oK 6 0 []).code = 0 from rfl, kn_c6] at this; exact this)
  have CW := Lib.hid (show ∀ X, Tab42 X → Calls Tryz.prog 13 #[] X fun e w' => e = .returned (.bool true) ∧ Below X.heap.size X w' from fun X hX => awake42 X hX)
  have CG1 := Lib.hid (show ∀ X, Calls Tryz.prog 40 #[.string ⟨#[71, 69, 84]⟩, .agg #[.int .i64 1, .string ⟨#[]⟩, .string ⟨#[]⟩, .int .i64 0, .string ⟨#[]⟩, .int .i64 0], .agg #[.bool false, .slice none 0 0, .int .i64 0, .string ⟨#[]⟩, .slice none 0 0, .slice none 0 0, .string ⟨#[]⟩], .int .i64 404] X fun e w' => e = .returned (.bool true) ∧ Below X.heap.size X w' from fun X => pCodes f00 [71, 69, 84] (oK 1 0 []) none none none 0 0 0 404 X (light00 [] (by decide)).fok kn_g1)
  have CG2 := Lib.hid (show ∀ X, Calls Tryz.prog 40 #[.string ⟨#[72, 69, 65, 68]⟩, .agg #[.int .i64 4, .string ⟨#[]⟩, .string ⟨#[]⟩, .int .i64 0, .string ⟨#[]⟩, .int .i64 0], .agg #[.bool false, .slice none 0 0, .int .i64 0, .string ⟨#[]⟩, .slice none 0 0, .slice none 0 0, .string ⟨#[]⟩], .int .i64 410] X fun e w' => e = .returned (.bool true) ∧ Below X.heap.size X w' from fun X => pCodes f00 [72, 69, 65, 68] (oK 4 0 []) none none none 0 0 0 410 X (light00 [] (by decide)).fok kn_g2)
  have HT := Lib.hid (show ∀ X, Below w.heap.size w X → Tab42 X ∧ Spaces X from fun X hX => ⟨hT.below hX, hSp.below hX⟩)
  have G0 := Lib.hid (Below.refl w.heap.size w)
  clear hT hSp
  go_enter Tryz.func23, Tryz.ntmps23
  go_wp2_with fail
  (with_reducible refine (CP1.out _ (HT.out _ G0.out).1).mono ?_); rintro e w1 ⟨rfl, g1⟩
  have G1 := Lib.hid (G0.out.trans (g1.mono G0.out.size))
  clear g1
  go_wp2_with fail
  (with_reducible refine (CP2.out _ (HT.out _ G1.out).1).mono ?_); rintro e w2 ⟨rfl, g2⟩
  have G2 := Lib.hid (G1.out.trans (g2.mono G1.out.size))
  clear g2
  have kN := ((Blk.new w2 9 #[.string ⟨#[119]⟩]).alloc (.cells #[.string ⟨#[98]⟩] 9)).alloc (.cells #[.bool true, .slice none 0 0, .int .i64 2, .string ⟨#[]⟩, .slice (some ⟨w2.heap.size, 0, none⟩) 1 1, .slice (some ⟨w2.heap.size + 1, 0, none⟩) 1 1, .string ⟨#[]⟩] 42)
  have kV := (Blk.new (w2.alloc (.cells #[.string ⟨#[119]⟩] 9)) 9 #[.string ⟨#[98]⟩]).alloc (.cells #[.bool true, .slice none 0 0, .int .i64 2, .string ⟨#[]⟩, .slice (some ⟨w2.heap.size, 0, none⟩) 1 1, .slice (some ⟨w2.heap.size + 1, 0, none⟩) 1 1, .string ⟨#[]⟩] 42)
  have kE := Blk.new ((w2.alloc (.cells #[.string ⟨#[119]⟩] 9)).alloc (.cells #[.string ⟨#[98]⟩] 9)) 42 #[.bool true, .slice none 0 0, .int .i64 2, .string ⟨#[]⟩, .slice (some ⟨w2.heap.size, 0, none⟩) 1 1, .slice (some ⟨w2.heap.size + 1, 0, none⟩) 1 1, .string ⟨#[]⟩]
  rw [show (w2.alloc (.cells #[.string ⟨#[119]⟩] 9)).heap.size = w2.heap.size + 1 by simp] at kV
  rw [show ((w2.alloc (.cells #[.string ⟨#[119]⟩] 9)).alloc (.cells #[.string ⟨#[98]⟩] 9)).heap.size = w2.heap.size + 1 + 1 by simp] at kE
  have G3 := Lib.hid (((G2.out.alloc G2.out.size (.cells #[.string ⟨#[119]⟩] 9)).alloc (G2.out.alloc G2.out.size (.cells #[.string ⟨#[119]⟩] 9)).size (.cells #[.string ⟨#[98]⟩] 9)).alloc ((G2.out.alloc G2.out.size (.cells #[.string ⟨#[119]⟩] 9)).alloc (G2.out.alloc G2.out.size (.cells #[.string ⟨#[119]⟩] 9)).size (.cells #[.string ⟨#[98]⟩] 9)).size (.cells #[.bool true, .slice none 0 0, .int .i64 2, .string ⟨#[]⟩, .slice (some ⟨w2.heap.size, 0, none⟩) 1 1, .slice (some ⟨w2.heap.size + 1, 0, none⟩) 1 1, .string ⟨#[]⟩] 42))
  have KN := Lib.hid kN
  have KV := Lib.hid kV
  have KE := Lib.hid kE
  clear kN kV kE
  go_wp2_with fail
  (with_reducible refine (CF1.out _).mono ?_); rintro e w4 ⟨rfl, g4⟩
  have G4 := Lib.hid (G3.out.trans (g4.mono G3.out.size))
  have KN4 := Lib.hid (KN.out.below g4 KN.out.lt)
  have KV4 := Lib.hid (KV.out.below g4 KV.out.lt)
  have KE4 := Lib.hid (KE.out.below g4 KE.out.lt)
  clear g4
  go_wp2_with fail
  (with_reducible refine (CS1.out _).mono ?_); rintro e w5 ⟨rfl, g5⟩
  have G5 := Lib.hid (G4.out.trans (g5.mono G4.out.size))
  have KN5 := Lib.hid (KN4.out.below g5 KN4.out.lt)
  have KV5 := Lib.hid (KV4.out.below g5 KV4.out.lt)
  have KE5 := Lib.hid (KE4.out.below g5 KE4.out.lt)
  clear g5
  have e0 : w5.cell? ⟨w2.heap.size + 1 + 1, 0, none⟩ = some (.bool true) := KE5.out.cell 0
  have e1 : w5.cell? ⟨w2.heap.size + 1 + 1, 1, none⟩ = some (.slice none 0 0) := KE5.out.cell 1
  have e2 : w5.cell? ⟨w2.heap.size + 1 + 1, 2, none⟩ = some (.int .i64 2) := KE5.out.cell 2
  have e3 : w5.cell? ⟨w2.heap.size + 1 + 1, 3, none⟩ = some (.string ⟨#[]⟩) := KE5.out.cell 3
  have e4 : w5.cell? ⟨w2.heap.size + 1 + 1, 4, none⟩ = some (.slice (some ⟨w2.heap.size, 0, none⟩) 1 1) := KE5.out.cell 4
  have e5 : w5.cell? ⟨w2.heap.size + 1 + 1, 5, none⟩ = some (.slice (some ⟨w2.heap.size + 1, 0, none⟩) 1 1) := KE5.out.cell 5
  have e6 : w5.cell? ⟨w2.heap.size + 1 + 1, 6, none⟩ = some (.string ⟨#[]⟩) := KE5.out.cell 6
  have CE5 := Lib.hid (CE.out _ _ _ KN5.out KV5.out)
  go_wp2_with fail
  (with_reducible refine (CE5.out).mono ?_); rintro e w6 ⟨rfl, g6⟩
  have G6 := Lib.hid (G5.out.trans (g6.mono G5.out.size))
  clear g6 e0 e1 e2 e3 e4 e5 e6
  go_wp2_with fail
  (with_reducible refine (CF3.out _).mono ?_); rintro e w7 ⟨rfl, g7⟩
  have G7 := Lib.hid (G6.out.trans (g7.mono G6.out.size))
  clear g7
  go_wp2_with fail
  (with_reducible refine (CS3.out _).mono ?_); rintro e w8 ⟨rfl, g8⟩
  have G8 := Lib.hid (G7.out.trans (g8.mono G7.out.size))
  clear g8
  go_wp2_with fail
  (with_reducible refine (CF4.out _).mono ?_); rintro e w9 ⟨rfl, g9⟩
  have G9 := Lib.hid (G8.out.trans (g9.mono G8.out.size))
  clear g9
  go_wp2_with fail
  (with_reducible refine (CS4.out _).mono ?_); rintro e w10 ⟨rfl, g10⟩
  have G10 := Lib.hid (G9.out.trans (g10.mono G9.out.size))
  clear g10
  go_wp2_with fail
  (with_reducible refine (CU1.out _ (HT.out _ G10.out).1).mono ?_); rintro e w11 ⟨rfl, g11⟩
  have G11 := Lib.hid (G10.out.trans (g11.mono G10.out.size))
  clear g11
  go_wp2_with fail
  (with_reducible refine (CU2.out _ (HT.out _ G11.out).1).mono ?_); rintro e w12 ⟨rfl, g12⟩
  have G12 := Lib.hid (G11.out.trans (g12.mono G11.out.size))
  clear g12
  have GK := Lib.hid (G12.out.alloc G12.out.size (.cells #[.string ⟨#[67, 111, 110, 116, 101, 110, 116, 45, 84, 121, 112, 101]⟩, .string ⟨#[116, 101, 120, 116, 47, 112, 108, 97, 105, 110]⟩] 57))
  have KK := Lib.hid (Blk.new w12 57 #[.string ⟨#[67, 111, 110, 116, 101, 110, 116, 45, 84, 121, 112, 101]⟩, .string ⟨#[116, 101, 120, 116, 47, 112, 108, 97, 105, 110]⟩])
  go_wp2_with fail
  (with_reducible refine (CA1.out _ (HT.out _ GK.out).1 (HT.out _ GK.out).2).mono ?_); rintro e w13 ⟨A1, c1, rfl, r13, g13⟩
  have G13 := Lib.hid (GK.out.trans (g13.mono GK.out.size))
  have K13 := Lib.hid ((KK.out.below g13 KK.out.lt).alloc (.cells #[.int .i64 403, .slice A1 1 c1, .string ⟨#[52, 48, 51, 32, 70, 111, 114, 98, 105, 100, 100, 101, 110, 10]⟩, .bool false, .bool false] 24))
  have GA := Lib.hid (G13.out.alloc G13.out.size (.cells #[.int .i64 403, .slice A1 1 c1, .string ⟨#[52, 48, 51, 32, 70, 111, 114, 98, 105, 100, 100, 101, 110, 10]⟩, .bool false, .bool false] 24))
  have KA := Lib.hid (Blk.new w13 24 #[.int .i64 403, .slice A1 1 c1, .string ⟨#[52, 48, 51, 32, 70, 111, 114, 98, 105, 100, 100, 101, 110, 10]⟩, .bool false, .bool false])
  have RA := Lib.hid ((r13.below ((Below.refl _ w13).alloc (Nat.le_refl _) (.cells #[.int .i64 403, .slice A1 1 c1, .string ⟨#[52, 48, 51, 32, 70, 111, 114, 98, 105, 100, 100, 101, 110, 10]⟩, .bool false, .bool false] 24))).more (by simp : w13.heap.size ≤ (w13.alloc (.cells #[.int .i64 403, .slice A1 1 c1, .string ⟨#[52, 48, 51, 32, 70, 111, 114, 98, 105, 100, 100, 101, 110, 10]⟩, .bool false, .bool false] 24)).heap.size))
  clear r13 g13
  go_wp2_with fail
  (with_reducible refine (CA2.out _ (HT.out _ GA.out).1 (HT.out _ GA.out).2).mono ?_); rintro e w14 ⟨A2, c2, rfl, r14, g14⟩
  have G14 := Lib.hid (GA.out.trans (g14.mono GA.out.size))
  have GB := Lib.hid (G14.out.alloc G14.out.size (.cells #[.int .i64 302, .slice A2 2 c2, .string ⟨#[]⟩, .bool true, .bool false] 24))
  have KB := Lib.hid (Blk.new w14 24 #[.int .i64 302, .slice A2 2 c2, .string ⟨#[]⟩, .bool true, .bool false])
  have K14 := Lib.hid ((K13.out.below g14 K13.out.lt).alloc (.cells #[.int .i64 302, .slice A2 2 c2, .string ⟨#[]⟩, .bool true, .bool false] 24))
  have KA14 := Lib.hid ((KA.out.below g14 KA.out.lt).alloc (.cells #[.int .i64 302, .slice A2 2 c2, .string ⟨#[]⟩, .bool true, .bool false] 24))
  have RB := Lib.hid ((r14.below ((Below.refl _ w14).alloc (Nat.le_refl _) (.cells #[.int .i64 302, .slice A2 2 c2, .string ⟨#[]⟩, .bool true, .bool false] 24))).more (by simp : w14.heap.size ≤ (w14.alloc (.cells #[.int .i64 302, .slice A2 2 c2, .string ⟨#[]⟩, .bool true, .bool false] 24)).heap.size))
  have RA14 := Lib.hid (((RA.out.below g14).more g14.size |>.below ((Below.refl _ w14).alloc (Nat.le_refl _) (.cells #[.int .i64 302, .slice A2 2 c2, .string ⟨#[]⟩, .bool true, .bool false] 24))).more (by simp : w14.heap.size ≤ (w14.alloc (.cells #[.int .i64 302, .slice A2 2 c2, .string ⟨#[]⟩, .bool true, .bool false] 24)).heap.size))
  clear r14 g14
  go_wp2_with fail
  obtain ⟨W, hW⟩ : ∃ W, (w14.alloc (.cells #[.int .i64 302, .slice A2 2 c2, .string ⟨#[]⟩, .bool true, .bool false] 24)) = W := ⟨_, rfl⟩
  rw [hW] at GB KB K14 KA14 RB RA14
  rw [hW]
  clear hW
  have BD := Lib.hid (Below.refl W.heap.size W).drew
  have SA := Lib.hid (show ∀ X, Below W.heap.size W X → Calls Tryz.prog 21 #[.agg #[.int .i64 403, .slice A1 1 c1, .string ⟨#[52, 48, 51, 32, 70, 111, 114, 98, 105, 100, 100, 101, 110, 10]⟩, .bool false, .bool false], .agg #[.int .i64 403, .slice (some ⟨w12.heap.size, 0, none⟩) 1 1, .string ⟨#[52, 48, 51, 32, 70, 111, 114, 98, 105, 100, 100, 101, 110, 10]⟩, .bool false, .bool false]] X fun e w' => e = .returned (.bool true) ∧ Below X.heap.size X w' from fun X hX => pSame42 ⟨403, [textF], [52, 48, 51, 32, 70, 111, 114, 98, 105, 100, 100, 101, 110, 10], false, false⟩ A1 (some ⟨w12.heap.size, 0, none⟩) 1 1 c1 1 X ((RA14.out.below hX).more hX.size) (readsF1 textF (K14.out.below hX K14.out.lt)) (by omega))
  have SB := Lib.hid (show ∀ A c X, Below W.heap.size W X → X.ownsRow W.heap.size 57 2 (.slice A 2 c) 2 (fldsC [(locN, [104, 116, 116, 112, 58, 47, 47, 97, 47, 98]), textF]) → Calls Tryz.prog 21 #[.agg #[.int .i64 302, .slice A2 2 c2, .string ⟨#[]⟩, .bool true, .bool false], .agg #[.int .i64 302, .slice A 2 c, .string ⟨#[]⟩, .bool true, .bool false]] X fun e w' => e = .returned (.bool true) ∧ Below X.heap.size X w' from fun A c X hX ho => pSame42 ⟨302, [(locN, [104, 116, 116, 112, 58, 47, 47, 97, 47, 98]), textF], [], true, false⟩ A2 A 2 2 c2 c X ((RB.out.below hX).more hX.size) (Reads.of_own ho) (by omega))
  have AP := Lib.hid (show ∀ v, Below W.heap.size W v → ∃ A c w5, (Builtin.append_ #[22, 22] 22 #[.slice (some ⟨v.heap.size, 0, none⟩) 1 1, .slice (some ⟨w12.heap.size, 0, none⟩) 1 1]).run Tryz.prog (v.alloc (.cells #[.string ⟨#[76, 111, 99, 97, 116, 105, 111, 110]⟩, .string ⟨#[104, 116, 116, 112, 58, 47, 47, 97, 47, 98]⟩] 57)) = .ok (.slice A 2 c) w5 ∧ w5.ownsRow W.heap.size 57 2 (.slice A 2 c) 2 (fldsC [(locN, [104, 116, 116, 112, 58, 47, 47, 97, 47, 98]), textF]) ∧ Below W.heap.size W w5 from fun v hv => by
    obtain ⟨A, c, w5, hrun, ho, hb⟩ := app_two (W := v.alloc (.cells #[.string ⟨#[76, 111, 99, 97, 116, 105, 111, 110]⟩, .string ⟨#[104, 116, 116, 112, 58, 47, 47, 97, 47, 98]⟩] 57)) (locN, [104, 116, 116, 112, 58, 47, 47, 97, 47, 98]) textF (Blk.new v 57 #[.string ⟨#[76, 111, 99, 97, 116, 105, 111, 110]⟩, .string ⟨#[104, 116, 116, 112, 58, 47, 47, 97, 47, 98]⟩]) ((K14.out.below hv K14.out.lt).alloc (.cells #[.string ⟨#[76, 111, 99, 97, 116, 105, 111, 110]⟩, .string ⟨#[104, 116, 116, 112, 58, 47, 47, 97, 47, 98]⟩] 57))
    have hs := hv.size
    have h1 : W.heap.size ≤ (v.alloc (.cells #[.string ⟨#[76, 111, 99, 97, 116, 105, 111, 110]⟩, .string ⟨#[104, 116, 116, 112, 58, 47, 47, 97, 47, 98]⟩] 57)).heap.size := by simp; omega
    exact ⟨A, c, w5, hrun, own_leH ho h1, (hv.alloc hs (.cells #[.string ⟨#[76, 111, 99, 97, 116, 105, 111, 110]⟩, .string ⟨#[104, 116, 116, 112, 58, 47, 47, 97, 47, 98]⟩] 57)).trans (hb.mono h1)⟩)
  have CA := Lib.hid (show ∀ X, Below W.heap.size W X → (X.cell? ⟨w13.heap.size, 0, none⟩ = some (.int .i64 403) ∧ X.cell? ⟨w13.heap.size, 1, none⟩ = some (.slice A1 1 c1) ∧ X.cell? ⟨w13.heap.size, 2, none⟩ = some (.string ⟨#[52, 48, 51, 32, 70, 111, 114, 98, 105, 100, 100, 101, 110, 10]⟩) ∧ X.cell? ⟨w13.heap.size, 3, none⟩ = some (.bool false) ∧ X.cell? ⟨w13.heap.size, 4, none⟩ = some (.bool false)) from fun X hX => ⟨(KA14.out.below hX KA14.out.lt).cell 0, (KA14.out.below hX KA14.out.lt).cell 1, (KA14.out.below hX KA14.out.lt).cell 2, (KA14.out.below hX KA14.out.lt).cell 3, (KA14.out.below hX KA14.out.lt).cell 4⟩)
  have CB := Lib.hid (show ∀ X, Below W.heap.size W X → (X.cell? ⟨w14.heap.size, 0, none⟩ = some (.int .i64 302) ∧ X.cell? ⟨w14.heap.size, 1, none⟩ = some (.slice A2 2 c2) ∧ X.cell? ⟨w14.heap.size, 2, none⟩ = some (.string ⟨#[]⟩) ∧ X.cell? ⟨w14.heap.size, 3, none⟩ = some (.bool true) ∧ X.cell? ⟨w14.heap.size, 4, none⟩ = some (.bool false)) from fun X hX => ⟨(KB.out.below hX KB.out.lt).cell 0, (KB.out.below hX KB.out.lt).cell 1, (KB.out.below hX KB.out.lt).cell 2, (KB.out.below hX KB.out.lt).cell 3, (KB.out.below hX KB.out.lt).cell 4⟩)
  have GW := Lib.hid GB.out
  obtain ⟨a0, a1, a2, a3, a4⟩ := CA.out W (Below.refl _ _)
  clear G0 G1 G2 G3 G4 G5 G6 G7 G8 G9 G10 G11 G12 GK G13 GA G14 GB
  have bb := And.intro (CA.out W (Below.refl _ _)) (CB.out W (Below.refl _ _))
  go_region_held3 (fun X => (X.cell? ⟨w13.heap.size, 0, none⟩ = some (.int .i64 403) ∧ X.cell? ⟨w13.heap.size, 1, none⟩ = some (.slice A1 1 c1) ∧ X.cell? ⟨w13.heap.size, 2, none⟩ = some (.string ⟨#[52, 48, 51, 32, 70, 111, 114, 98, 105, 100, 100, 101, 110, 10]⟩) ∧ X.cell? ⟨w13.heap.size, 3, none⟩ = some (.bool false) ∧ X.cell? ⟨w13.heap.size, 4, none⟩ = some (.bool false)) ∧ (X.cell? ⟨w14.heap.size, 0, none⟩ = some (.int .i64 302) ∧ X.cell? ⟨w14.heap.size, 1, none⟩ = some (.slice A2 2 c2) ∧ X.cell? ⟨w14.heap.size, 2, none⟩ = some (.string ⟨#[]⟩) ∧ X.cell? ⟨w14.heap.size, 3, none⟩ = some (.bool true) ∧ X.cell? ⟨w14.heap.size, 4, none⟩ = some (.bool false))) (first | exact S1 | exact S2 | exact S3 | exact h6 | exact bb) (first
    | (refine step_append_run_g (by rfl) hrun _ _ (by rfl) (by rfl) (by rfl) (by rfl) ?_)
    | (go_simp; go_at_call 21; (with_reducible refine (SB.out _ _ _ hb5 ho5).mono ?_); rintro e v6 ⟨rfl, hv6⟩; have h6 := And.intro (CA.out v6 (hb5.trans (hv6.mono hb5.size))) (CB.out v6 (hb5.trans (hv6.mono hb5.size))))
    | (go_simp; go_at_call 21; (with_reducible refine (SA.out _ BD.out).mono ?_); rintro e v1 ⟨rfl, hv1⟩
       have hv2 := BD.out.trans (hv1.mono BD.out.size)
       obtain ⟨b0, b1, b2, b3, b4⟩ := CB.out v1 hv2
       obtain ⟨d0, d1, d2, d3, d4⟩ := CB.out (v1.alloc (.cells #[.string ⟨#[76, 111, 99, 97, 116, 105, 111, 110]⟩, .string ⟨#[104, 116, 116, 112, 58, 47, 47, 97, 47, 98]⟩] 57)) (hv2.alloc hv2.size _)
       obtain ⟨A3, c3, w5, hrun, ho5, hb5⟩ := AP.out v1 hv2
       obtain ⟨f0, f1, f2, f3, f4⟩ := CB.out w5 hb5
       have S1 := And.intro (CA.out v1 hv2) (CB.out v1 hv2)
       have S2 := And.intro (CA.out (v1.alloc (.cells #[.string ⟨#[76, 111, 99, 97, 116, 105, 111, 110]⟩, .string ⟨#[104, 116, 116, 112, 58, 47, 47, 97, 47, 98]⟩] 57)) (hv2.alloc hv2.size _)) (CB.out (v1.alloc (.cells #[.string ⟨#[76, 111, 99, 97, 116, 105, 111, 110]⟩, .string ⟨#[104, 116, 116, 112, 58, 47, 47, 97, 47, 98]⟩] 57)) (hv2.alloc hv2.size _))
       have S3 := And.intro (CA.out w5 hb5) (CB.out w5 hb5)
       clear hv1))
  all_goals (
    have G20 := Lib.hid (GW.out.trans ((hb5.trans (hv6.mono hb5.size)).mono GW.out.size))
    go_wp2_with fail
    (with_reducible refine (CC6.out _).mono ?_); rintro e v7 ⟨rfl, g7⟩
    have G21 := Lib.hid (G20.out.trans (g7.mono G20.out.size))
    clear g7
    go_wp2_with fail
    (with_reducible refine (CW.out _ (HT.out _ G21.out).1).mono ?_); rintro e v8 ⟨rfl, g8⟩
    have G22 := Lib.hid (G21.out.trans (g8.mono G21.out.size))
    clear g8
    go_wp2_with fail
    (with_reducible refine (CG1.out _).mono ?_); rintro e v9 ⟨rfl, g9⟩
    have G23 := Lib.hid (G22.out.trans (g9.mono G22.out.size))
    clear g9
    go_wp2_with fail
    (with_reducible refine (CG2.out _).mono ?_); rintro e v10 ⟨rfl, g10⟩
    have G24 := Lib.hid (G23.out.trans (g10.mono G23.out.size))
    clear g10
    go_wp2_with fail
    go_ret
    exact ⟨rfl, G24.out⟩)

end Go.Proofs.YthhlnpfcpgfcfaaGreatDoor