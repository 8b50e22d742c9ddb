/-
  RespondBack: for every response and every string behind it the call returns true, and the arguments read as before. Conditions: the package variables hold what their initialisers lay (tied by the card).
-/
import Derived.Test.YthhlnpfcpgfcfaaDoorCards
import Derived.Test.YthhlnpfcpgfcfaaDoorTie
import Derived.Test.YthhlnpfcpgfcfaaDoorCb
import Derived.Test.YthhlnpfcpgfcfaaDoorLRsBack
import Derived.Test.YthhlnpfcpgfcfaaDoorRsTabs
import Derived.Test.YthhlnpfcpgfcfaaDoorOpenR
import Derived.Lay
import Derived.Deep.DeepWitnessRowRef
namespace Go.Proofs.YthhlnpfcpgfcfaaDoor.respondBack
open Go.ChangeShapes Go.WideShapes Go.ChangeAt Go.RowKit
open Go.ChangeMaps (open_string shut_string)

set_option maxRecDepth 100000 in
theorem contract (H : Type) (enc : TypeId × Value → H) (W : World) (base : Nat) (args : Array Value) (ds gs : List (DataW H)) (before : List MemPlace)
    (hval : ∀ (j : Nat) t v, Tryd.f3.params[j]? = some t → args[j]? = some v → Value.okWide Tryd.prog W .any base t v)
    (hW : DataW.Whole enc Tryd.prog Tryd.f3.params.toList Rows.respondBackSpec.vars false W args.toList ds gs before) (hL : laidMetH Tryd.prog Rows.respondBackRow.laid W) (hshape : W.ShapedOpen Tryd.prog) :
    Calls Tryd.prog 3 args W fun e W' => ∃ v, e = .returned v ∧ Rows.respondBackSpec.post enc Tryd.prog Tryd.f3 false true false false W args v W' := by
  have hW' := hW
  obtain ⟨p, q, hA0, hV, rfl, hfz, hnd⟩ := hW
  have hA : DataW.TrodAll enc Tryd.prog W 0 (fun _ => true) true Tryd.f3.params.toList args.toList ds p := hA0
  rw [Tryd.params3] at hA hval
  obtain ⟨v0, vs0, d0, ds0, p0, q0, hargs, rfl, rfl, h0, r0⟩ := trodAll_cons hA
  obtain ⟨v1, vs1, d1, ds1, p1, q1, rfl, rfl, rfl, h1, r1⟩ := trodAll_cons r0
  obtain ⟨rfl, rfl, rfl⟩ := trodAll_nil r1
  obtain rfl : args = #[v0, v1] := by cases args; simp_all
  obtain ⟨rfl, rfl⟩ := trodVars_none hV
  obtain ⟨R0, A0, l0, c0, rfl, hl0, hc0, hr0, hb0, hx0⟩ := open_rsp (hval 0 24 v0 rfl rfl) h0
  unfold maxLen at hl0 hb0 hx0
  obtain ⟨s1, rfl, rfl, rfl, w1⟩ := open_string Tryd.underlying9 (hval 1 9 v1 rfl rfl) h1
  have b1 : s1.size ≤ 9223372036854775807 := by unfold maxLen at w1; exact w1
  have hw : Tab12 W := tab12_of (laid := Rows.respondBackRow.laid) hL hshape (by simp [Rows.respondBackRow]) (by simp [Rows.respondBackRow]) (by simp [Rows.respondBackRow]) (by simp [Rows.respondBackRow]) (by simp [Rows.respondBackRow]) (by simp [Rows.respondBackRow]) (by simp [Rows.respondBackRow]) (by kernel_rfl) (by kernel_rfl)
  refine (RespondBack_true R0 A0 l0 c0 s1 W hr0 hl0 hb0 hx0 b1 hw).mono fun e W' ⟨he, hb⟩ => ?_
  subst he
  exact ⟨_, rfl, law_post hW' rfl laidOut (by kernel_rfl) rfl Tryd.underlying4 (by rfl) hb⟩

noncomputable def wit : Array Value := #[.agg #[.int .i64 0, .slice none 0 0, .string ⟨#[]⟩, .bool false, .bool false], .string ⟨#[]⟩]
theorem laid_met (os : Os) : laidMet Tryd.prog Rows.respondBackRow.laid ((World.laidAll Tryd.prog os Rows.respondBackRow.laid).forCall (fun _ _ => 0) ⟨#[], wit, []⟩).memory :=
  laidMet_laidAll wit (by kernel_rfl) (by kernel_rfl)
theorem reads (os : Os) {H : Type} (enc : TypeId × Value → H) : ∃ places, DataW.whole enc Tryd.prog ((World.laidAll Tryd.prog os Rows.respondBackRow.laid).forCall (fun _ _ => 0) ⟨#[], wit, []⟩).memory Tryd.f3.params.toList Rows.respondBackSpec.vars false wit.toList 8 = some ([.agg [.lit (.int .i64 0), .nil, .lit (.string []), .lit (.bool false), .lit (.bool false)], .lit (.string [])], [], places) :=
  ⟨[], by kernel_rfl⟩

set_option maxRecDepth 100000 in
theorem lifted (os : Os) (started : os.Started) (H : Type) (enc : TypeId × Value → H) (F : Stop.Interp) :
    ReturnsInHanded {} Tryd.checked os 3 .any ((OpenSpec.ofChange Rows.respondBackSpec).preRow enc Tryd.prog Tryd.f3 Rows.respondBackRow.domain false Rows.respondBackRow.laid) (((OpenSpec.ofChange Rows.respondBackSpec).at F).post enc Tryd.prog Tryd.f3 false true false false) := by
  obtain ⟨places, hx⟩ := reads os enc
  refine returnsInHanded_of_row (C := Tryd.checked) (s := OpenSpec.ofChange Rows.respondBackSpec) own started (by kernel_rfl) Tryd.func3
    (witness_row_atRef (enc := enc) (C := Tryd.checked) false (World.laidAll Tryd.prog os Rows.respondBackRow.laid) wit (World.laidAll_os _ _ _) (by kernel_rfl) (by kernel_rfl) (by kernel_rfl)
      (OpenSpec.preRow_of_cond 8 hx (by kernel_rfl) (fun k hk => by cases hk) (by kernel_rfl) (laid_met os))) ?_
  intro W base args ds gs before hval hW _ _ _ hL hshape _
  exact contract H enc W base args ds gs before hval hW hL hshape

theorem gInPlace : Tryd.prog.inPlace 3 = (Rows.respondBackRow).inPlace := by kernel_rfl
theorem gUnfollowed : Tryd.prog.unfollowed 3 = (Rows.respondBackRow).unfollowed := by kernel_rfl
theorem gRecurses : Tryd.prog.recurses 3 = (Rows.respondBackRow).recurses := by kernel_rfl
theorem gNamed : Tryd.prog.varsNamed 3 = (Rows.respondBackRow).named := by kernel_rfl
theorem closed : joinedFacts Tryd.prog 3 Tryd.f3 (OpenSpec.ofChange Rows.respondBackSpec).bare Rows.respondBackRow = true := by
  unfold joinedFacts
  rw [gInPlace, gUnfollowed, gRecurses, gNamed]
  kernel_rfl
theorem asNamed : Tryd.prog.funcNamed Rows.respondBackRow.func = some 3 := by kernel_rfl
theorem inst : Tryd.f3.isInstance Tryd.prog Rows.respondBackRow.origin Rows.respondBackRow.targs := of_decide_eq_true (by kernel_rfl)
theorem wrap : Tryd.f3.isWrapper Tryd.prog Rows.respondBackRow.wrapper Rows.respondBackRow.mainSum := by unfold Func.isWrapper; first | (rw [if_pos (by decide +kernel)]; kernel_rfl) | (rw [if_neg (by decide +kernel)]; exact ⟨rfl, rfl⟩)
theorem said : Rows.RespondBackSaid :=
  OpenClaim.holds_of_cond 3 Tryd.f3 rfl rfl rfl rfl rfl rfl rfl ⟨rfl, rfl, rfl, rfl, rfl⟩ rfl rfl rfl rfl rfl asNamed Tryd.func3 closed inst wrap
    (fun os started H enc _ F => by rw [OpenClaim.pre_eq_preRow]; exact lifted os started H enc F)

theorem plain (f : FuncId) (fn : Func) (hf : Tryd.pinned.checked.prog.funcNamed "waypost/waypostlaw12.RespondBack" = some f) (hfn : Tryd.pinned.checked.prog.funcs[f]? = some fn) :
    true = Tryd.pinned.checked.prog.looks [] ∧ ∀ (j : Nat) t, fn.params[j]? = some t → Tryd.pinned.checked.prog.wantsStandIn t = false := by
  obtain rfl : f = 3 := Option.some.inj ((show Tryd.prog.funcNamed "waypost/waypostlaw12.RespondBack" = some 3 by kernel_rfl).symm.trans hf) |>.symm
  obtain rfl : fn = Tryd.f3 := (Option.some.inj (Tryd.func3.symm.trans hfn)).symm
  refine ⟨by kernel_rfl, fun j t ht => ?_⟩
  have hall : Tryd.f3.params.toList.all (fun t => !Tryd.prog.wantsStandIn t) = true := by kernel_rfl
  have hm : t ∈ Tryd.f3.params.toList := by simpa using Array.mem_of_getElem? ht
  have h1 := List.all_eq_true.1 hall t hm
  rw [Bool.not_eq_true'] at h1
  exact h1

theorem card : Rows.RespondBackCardSaid :=
  Claim7.holds_tied_plain_at .later [] _ _ _ _ said (fun _ h => by cases h) (by kernel_rfl) (fun _ h => by cases h) respondBack_row_tie rfl ⟨rfl, rfl⟩ (by kernel_rfl) rfl plain (by kernel_rfl)
end Go.Proofs.YthhlnpfcpgfcfaaDoor.respondBack
