/-
  RespondJoin: for every list of responses the call returns true, and the arguments read as before. Conditions: the package variables hold what their initialisers lay (tied by the card).
-/
import Derived.Test.YthhlnpfcpgfcfaaDoorCards
import Derived.Test.YthhlnpfcpgfcfaaDoorTie
import Derived.Test.YthhlnpfcpgfcfaaDoorCb
import Derived.Test.YthhlnpfcpgfcfaaDoorLRsJoin
import Derived.Test.YthhlnpfcpgfcfaaDoorRsTabs
import Derived.Test.YthhlnpfcpgfcfaaDoorOpenJ
import Derived.Lay
import Derived.Deep.DeepWitnessRowRef
namespace Go.Proofs.YthhlnpfcpgfcfaaDoor.respondJoin
open Go.ChangeShapes Go.WideShapes Go.ChangeAt Go.RowKit
open Go.ChangeMaps (open_string shut_string)

set_option maxRecDepth 100000 in
theorem contract (H : Type) (enc : TypeId × Value → H) (W : World) (base : Nat) (args : Array Value) (ds gs : List (DataW H)) (before : List MemPlace)
    (hval : ∀ (j : Nat) t v, Tryd.f4.params[j]? = some t → args[j]? = some v → Value.okWide Tryd.prog W .any base t v)
    (hW : DataW.Whole enc Tryd.prog Tryd.f4.params.toList Rows.respondJoinSpec.vars false W args.toList ds gs before) (hL : laidMetH Tryd.prog Rows.respondJoinRow.laid W) (hshape : W.ShapedOpen Tryd.prog) :
    Calls Tryd.prog 4 args W fun e W' => ∃ v, e = .returned v ∧ Rows.respondJoinSpec.post enc Tryd.prog Tryd.f4 false true false false W args v W' := by
  have hW' := hW
  obtain ⟨p, q, hA0, hV, rfl, hfz, hnd⟩ := hW
  have hA : DataW.TrodAll enc Tryd.prog W 0 (fun _ => true) true Tryd.f4.params.toList args.toList ds p := hA0
  rw [Tryd.params4] at hA hval
  obtain ⟨v0, vs0, d0, ds0, p0, q0, hargs, rfl, rfl, h0, r0⟩ := trodAll_cons hA
  obtain ⟨rfl, rfl, rfl⟩ := trodAll_nil r0
  obtain rfl : args = #[v0] := by cases args; simp_all
  obtain ⟨rfl, rfl⟩ := trodVars_none hV
  obtain ⟨A0, l0, c0, X0, rfl, hl0, hr0, hx0⟩ := open_rsps (hval 0 38 v0 rfl rfl) h0
  have hw : Tab12 W := tab12_of (laid := Rows.respondJoinRow.laid) hL hshape (by simp [Rows.respondJoinRow]) (by simp [Rows.respondJoinRow]) (by simp [Rows.respondJoinRow]) (by simp [Rows.respondJoinRow]) (by simp [Rows.respondJoinRow]) (by simp [Rows.respondJoinRow]) (by simp [Rows.respondJoinRow]) (by kernel_rfl) (by kernel_rfl)
  refine (RespondJoin_true X0 A0 l0 c0 W hr0 hl0 hx0 hw).mono fun e W' ⟨he, hb⟩ => ?_
  subst he
  exact ⟨_, rfl, law_post hW' rfl laidOut (by kernel_rfl) rfl Tryd.underlying4 (by rfl) hb⟩

noncomputable def wit : Array Value := #[.slice none 0 0]
theorem laid_met (os : Os) : laidMet Tryd.prog Rows.respondJoinRow.laid ((World.laidAll Tryd.prog os Rows.respondJoinRow.laid).forCall (fun _ _ => 0) ⟨#[], wit, []⟩).memory :=
  laidMet_laidAll wit (by kernel_rfl) (by kernel_rfl)
theorem reads (os : Os) {H : Type} (enc : TypeId × Value → H) : ∃ places, DataW.whole enc Tryd.prog ((World.laidAll Tryd.prog os Rows.respondJoinRow.laid).forCall (fun _ _ => 0) ⟨#[], wit, []⟩).memory Tryd.f4.params.toList Rows.respondJoinSpec.vars false wit.toList 8 = some ([.nil], [], places) :=
  ⟨[], by kernel_rfl⟩

set_option maxRecDepth 100000 in
theorem lifted (os : Os) (started : os.Started) (H : Type) (enc : TypeId × Value → H) (F : Stop.Interp) :
    ReturnsInHanded {} Tryd.checked os 4 .any ((OpenSpec.ofChange Rows.respondJoinSpec).preRow enc Tryd.prog Tryd.f4 Rows.respondJoinRow.domain false Rows.respondJoinRow.laid) (((OpenSpec.ofChange Rows.respondJoinSpec).at F).post enc Tryd.prog Tryd.f4 false true false false) := by
  obtain ⟨places, hx⟩ := reads os enc
  refine returnsInHanded_of_row (C := Tryd.checked) (s := OpenSpec.ofChange Rows.respondJoinSpec) own started (by kernel_rfl) Tryd.func4
    (witness_row_atRef (enc := enc) (C := Tryd.checked) false (World.laidAll Tryd.prog os Rows.respondJoinRow.laid) wit (World.laidAll_os _ _ _) (by kernel_rfl) (by kernel_rfl) (by kernel_rfl)
      (OpenSpec.preRow_of_cond 8 hx (by kernel_rfl) (fun k hk => by cases hk) (by kernel_rfl) (laid_met os))) ?_
  intro W base args ds gs before hval hW _ _ _ hL hshape _
  exact contract H enc W base args ds gs before hval hW hL hshape

theorem gInPlace : Tryd.prog.inPlace 4 = (Rows.respondJoinRow).inPlace := by kernel_rfl
theorem gUnfollowed : Tryd.prog.unfollowed 4 = (Rows.respondJoinRow).unfollowed := by kernel_rfl
theorem gRecurses : Tryd.prog.recurses 4 = (Rows.respondJoinRow).recurses := by kernel_rfl
theorem gNamed : Tryd.prog.varsNamed 4 = (Rows.respondJoinRow).named := by kernel_rfl
theorem closed : joinedFacts Tryd.prog 4 Tryd.f4 (OpenSpec.ofChange Rows.respondJoinSpec).bare Rows.respondJoinRow = true := by
  unfold joinedFacts
  rw [gInPlace, gUnfollowed, gRecurses, gNamed]
  kernel_rfl
theorem asNamed : Tryd.prog.funcNamed Rows.respondJoinRow.func = some 4 := by kernel_rfl
theorem inst : Tryd.f4.isInstance Tryd.prog Rows.respondJoinRow.origin Rows.respondJoinRow.targs := of_decide_eq_true (by kernel_rfl)
theorem wrap : Tryd.f4.isWrapper Tryd.prog Rows.respondJoinRow.wrapper Rows.respondJoinRow.mainSum := by unfold Func.isWrapper; first | (rw [if_pos (by decide +kernel)]; kernel_rfl) | (rw [if_neg (by decide +kernel)]; exact ⟨rfl, rfl⟩)
theorem said : Rows.RespondJoinSaid :=
  OpenClaim.holds_of_cond 4 Tryd.f4 rfl rfl rfl rfl rfl rfl rfl ⟨rfl, rfl, rfl, rfl, rfl⟩ rfl rfl rfl rfl rfl asNamed Tryd.func4 closed inst wrap
    (fun os started H enc _ F => by rw [OpenClaim.pre_eq_preRow]; exact lifted os started H enc F)

theorem plain (f : FuncId) (fn : Func) (hf : Tryd.pinned.checked.prog.funcNamed "waypost/waypostlaw12.RespondJoin" = some f) (hfn : Tryd.pinned.checked.prog.funcs[f]? = some fn) :
    true = Tryd.pinned.checked.prog.looks [] ∧ ∀ (j : Nat) t, fn.params[j]? = some t → Tryd.pinned.checked.prog.wantsStandIn t = false := by
  obtain rfl : f = 4 := Option.some.inj ((show Tryd.prog.funcNamed "waypost/waypostlaw12.RespondJoin" = some 4 by kernel_rfl).symm.trans hf) |>.symm
  obtain rfl : fn = Tryd.f4 := (Option.some.inj (Tryd.func4.symm.trans hfn)).symm
  refine ⟨by kernel_rfl, fun j t ht => ?_⟩
  have hall : Tryd.f4.params.toList.all (fun t => !Tryd.prog.wantsStandIn t) = true := by kernel_rfl
  have hm : t ∈ Tryd.f4.params.toList := by simpa using Array.mem_of_getElem? ht
  have h1 := List.all_eq_true.1 hall t hm
  rw [Bool.not_eq_true'] at h1
  exact h1

theorem card : Rows.RespondJoinCardSaid :=
  Claim7.holds_tied_plain_at .later [] _ _ _ _ said (fun _ h => by cases h) (by kernel_rfl) (fun _ h => by cases h) respondJoin_row_tie rfl ⟨rfl, rfl⟩ (by kernel_rfl) rfl plain (by kernel_rfl)
end Go.Proofs.YthhlnpfcpgfcfaaDoor.respondJoin
