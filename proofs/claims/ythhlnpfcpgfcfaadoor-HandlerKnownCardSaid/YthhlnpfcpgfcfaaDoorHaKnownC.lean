/-
  HandlerKnown: the call returns true. Conditions: the package variables hold what their initialisers lay (tied by the card).
-/
import Derived.Test.YthhlnpfcpgfcfaaDoorCards
import Derived.Test.YthhlnpfcpgfcfaaDoorTie
import Derived.Test.YthhlnpfcpgfcfaaDoorCb
import Derived.Test.YthhlnpfcpgfcfaaDoorHa15
import Derived.Test.YthhlnpfcpgfcfaaDoorHaSpc
import Derived.Lay
import Derived.Deep.DeepWitnessRowRef
namespace Go.Proofs.YthhlnpfcpgfcfaaDoor.handlerKnown
open Go.ChangeShapes Go.WideShapes Go.ChangeAt Go.RowKit
open Go.ChangeMaps (open_string shut_string)

set_option maxRecDepth 100000 in
theorem contract (H : Type) (enc : TypeId × Value → H) (W : World) (base : Nat) (args : Array Value) (ds gs : List (DataW H)) (before : List MemPlace)
    (hval : ∀ (j : Nat) t v, Tryd.f8.params[j]? = some t → args[j]? = some v → Value.okWide Tryd.prog W .any base t v)
    (hW : DataW.Whole enc Tryd.prog Tryd.f8.params.toList Rows.handlerKnownSpec.vars false W args.toList ds gs before) (hL : laidMetH Tryd.prog Rows.handlerKnownRow.laid W) (hshape : W.ShapedOpen Tryd.prog) :
    Calls Tryd.prog 8 args W fun e W' => ∃ v, e = .returned v ∧ Rows.handlerKnownSpec.post enc Tryd.prog Tryd.f8 false true false false W args v W' := by
  have hW' := hW
  obtain ⟨p, q, hA0, hV, rfl, hfz, hnd⟩ := hW
  have hA : DataW.TrodAll enc Tryd.prog W 0 (fun _ => true) true Tryd.f8.params.toList args.toList ds p := hA0
  rw [Tryd.params8] at hA hval
  obtain ⟨hargs, rfl, rfl⟩ := trodAll_nil hA
  obtain rfl : args = #[] := by cases args; simp_all
  obtain ⟨rfl, rfl⟩ := trodVars_none hV
  have hw : Tab42 W := tab42_of (laid := Rows.handlerKnownRow.laid) hL hshape (by simp [Rows.handlerKnownRow]) (by simp [Rows.handlerKnownRow]) (by simp [Rows.handlerKnownRow])
  have hsp : Spaces W := spaces_of (laid := Rows.handlerKnownRow.laid) hL (by simp [Rows.handlerKnownRow]) (by simp [Rows.handlerKnownRow]) (by simp [Rows.handlerKnownRow]) (by simp [Rows.handlerKnownRow])
  refine (pKnown42 W hw hsp).mono fun e W' ⟨he, hb⟩ => ?_
  subst he
  exact ⟨_, rfl, law_post hW' rfl laidOut (by kernel_rfl) rfl Tryd.underlying4 (by rfl) hb⟩

noncomputable def wit : Array Value := #[]
theorem laid_met (os : Os) : laidMet Tryd.prog Rows.handlerKnownRow.laid ((World.laidAll Tryd.prog os Rows.handlerKnownRow.laid).forCall (fun _ _ => 0) ⟨#[], wit, []⟩).memory :=
  laidMet_laidAll wit (by kernel_rfl) (by kernel_rfl)
theorem reads (os : Os) {H : Type} (enc : TypeId × Value → H) : ∃ places, DataW.whole enc Tryd.prog ((World.laidAll Tryd.prog os Rows.handlerKnownRow.laid).forCall (fun _ _ => 0) ⟨#[], wit, []⟩).memory Tryd.f8.params.toList Rows.handlerKnownSpec.vars false wit.toList 8 = some ([], [], places) :=
  ⟨[], by kernel_rfl⟩

set_option maxRecDepth 100000 in
theorem lifted (os : Os) (started : os.Started) (H : Type) (enc : TypeId × Value → H) (F : Stop.Interp) :
    ReturnsInHanded {} Tryd.checked os 8 .any ((OpenSpec.ofChange Rows.handlerKnownSpec).preRow enc Tryd.prog Tryd.f8 Rows.handlerKnownRow.domain false Rows.handlerKnownRow.laid) (((OpenSpec.ofChange Rows.handlerKnownSpec).at F).post enc Tryd.prog Tryd.f8 false true false false) := by
  obtain ⟨places, hx⟩ := reads os enc
  refine returnsInHanded_of_row (C := Tryd.checked) (s := OpenSpec.ofChange Rows.handlerKnownSpec) own started (by kernel_rfl) Tryd.func8
    (witness_row_atRef (enc := enc) (C := Tryd.checked) false (World.laidAll Tryd.prog os Rows.handlerKnownRow.laid) wit (World.laidAll_os _ _ _) (by kernel_rfl) (by kernel_rfl) (by kernel_rfl)
      (OpenSpec.preRow_of_cond 8 hx (by kernel_rfl) (fun k hk => by cases hk) (by kernel_rfl) (laid_met os))) ?_
  intro W base args ds gs before hval hW _ _ _ hL hshape _
  exact contract H enc W base args ds gs before hval hW hL hshape

theorem gInPlace : Tryd.prog.inPlace 8 = (Rows.handlerKnownRow).inPlace := by kernel_rfl
theorem gUnfollowed : Tryd.prog.unfollowed 8 = (Rows.handlerKnownRow).unfollowed := by kernel_rfl
theorem gRecurses : Tryd.prog.recurses 8 = (Rows.handlerKnownRow).recurses := by kernel_rfl
theorem gNamed : Tryd.prog.varsNamed 8 = (Rows.handlerKnownRow).named := by kernel_rfl
theorem closed : joinedFacts Tryd.prog 8 Tryd.f8 (OpenSpec.ofChange Rows.handlerKnownSpec).bare Rows.handlerKnownRow = true := by
  unfold joinedFacts
  rw [gInPlace, gUnfollowed, gRecurses, gNamed]
  kernel_rfl
theorem asNamed : Tryd.prog.funcNamed Rows.handlerKnownRow.func = some 8 := by kernel_rfl
theorem inst : Tryd.f8.isInstance Tryd.prog Rows.handlerKnownRow.origin Rows.handlerKnownRow.targs := of_decide_eq_true (by kernel_rfl)
theorem wrap : Tryd.f8.isWrapper Tryd.prog Rows.handlerKnownRow.wrapper Rows.handlerKnownRow.mainSum := by unfold Func.isWrapper; first | (rw [if_pos (by decide +kernel)]; kernel_rfl) | (rw [if_neg (by decide +kernel)]; exact ⟨rfl, rfl⟩)
theorem said : Rows.HandlerKnownSaid :=
  OpenClaim.holds_of_cond 8 Tryd.f8 rfl rfl rfl rfl rfl rfl rfl ⟨rfl, rfl, rfl, rfl, rfl⟩ rfl rfl rfl rfl rfl asNamed Tryd.func8 closed inst wrap
    (fun os started H enc _ F => by rw [OpenClaim.pre_eq_preRow]; exact lifted os started H enc F)

theorem plain (f : FuncId) (fn : Func) (hf : Tryd.pinned.checked.prog.funcNamed "waypost/waypostlaw42.HandlerKnown" = some f) (hfn : Tryd.pinned.checked.prog.funcs[f]? = some fn) :
    true = Tryd.pinned.checked.prog.looks [] ∧ ∀ (j : Nat) t, fn.params[j]? = some t → Tryd.pinned.checked.prog.wantsStandIn t = false := by
  obtain rfl : f = 8 := Option.some.inj ((show Tryd.prog.funcNamed "waypost/waypostlaw42.HandlerKnown" = some 8 by kernel_rfl).symm.trans hf) |>.symm
  obtain rfl : fn = Tryd.f8 := (Option.some.inj (Tryd.func8.symm.trans hfn)).symm
  refine ⟨by kernel_rfl, fun j t ht => ?_⟩
  have hall : Tryd.f8.params.toList.all (fun t => !Tryd.prog.wantsStandIn t) = true := by kernel_rfl
  have hm : t ∈ Tryd.f8.params.toList := by simpa using Array.mem_of_getElem? ht
  have h1 := List.all_eq_true.1 hall t hm
  rw [Bool.not_eq_true'] at h1
  exact h1

theorem card : Rows.HandlerKnownCardSaid :=
  Claim7.holds_tied_plain_at .later [] _ _ _ _ said (fun _ h => by cases h) (by kernel_rfl) (fun _ h => by cases h) handlerKnown_row_tie rfl ⟨rfl, rfl⟩ (by kernel_rfl) rfl plain (by kernel_rfl)
end Go.Proofs.YthhlnpfcpgfcfaaDoor.handlerKnown
