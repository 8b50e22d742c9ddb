/-
  FramingValid: for every two fields the call returns true, and each argument reads as before. Conditions: the package variables hold what their initialisers lay (tied by the card).
-/
import Derived.Test.YtpdohlnobbimaaaDoorCards
import Derived.Test.YtpdohlnobbimaaaDoorTie
import Derived.Test.YtpdohlnobbimaaaDoorCb
import Derived.Test.YtpdohlnobbimaaaDoorLFrValid
import Derived.Test.YtpdohlnobbimaaaDoorOpenX
import Derived.Test.YtpdohlnobbimaaaDoorFrTabs
import Derived.Lay
import Derived.Deep.DeepWitnessRowRef
namespace Go.Proofs.YtpdohlnobbimaaaDoor.framingValid
open Go.ChangeShapes Go.WideShapes Go.ChangeAt Go.RowKit
open Go.ChangeMaps (open_string shut_string)

set_option maxRecDepth 100000 in
theorem contract (H : Type) (enc : TypeId × Value → H) (W : World) (base : Nat) (args : Array Value) (ds gs : List (DataW H)) (before : List MemPlace)
    (hval : ∀ (j : Nat) t v, Tryd.f10.params[j]? = some t → args[j]? = some v → Value.okWide Tryd.prog W .any base t v)
    (hW : DataW.Whole enc Tryd.prog Tryd.f10.params.toList Rows.framingValidSpec.vars false W args.toList ds gs before) (hL : laidMetH Tryd.prog Rows.framingValidRow.laid W) :
    Calls Tryd.prog 10 args W fun e W' => ∃ v, e = .returned v ∧ Rows.framingValidSpec.post enc Tryd.prog Tryd.f10 false true false false W args v W' := by
  have hW' := hW
  obtain ⟨p, q, hA0, hV, rfl, hfz, hnd⟩ := hW
  have hA : DataW.TrodAll enc Tryd.prog W 0 (fun _ => true) true Tryd.f10.params.toList args.toList ds p := hA0
  rw [Tryd.params10] at hA hval
  obtain ⟨v0, vs0, d0, ds0, p0, q0, hargs, rfl, rfl, h0, r0⟩ := trodAll_cons hA
  obtain ⟨v1, vs1, d1, ds1, p1, q1, rfl, rfl, rfl, h1, r1⟩ := trodAll_cons r0
  obtain ⟨rfl, rfl, rfl⟩ := trodAll_nil r1
  obtain rfl : args = #[v0, v1] := by cases args; simp_all
  obtain ⟨rfl, rfl⟩ := trodVars_none hV
  obtain ⟨x0, rfl, hy0, hz0⟩ := open_fld (hval 0 36 v0 rfl rfl) h0
  unfold maxLen at hy0 hz0
  obtain ⟨x1, rfl, hy1, hz1⟩ := open_fld (hval 1 36 v1 rfl rfl) h1
  unfold maxLen at hy1 hz1
  have htab : Tabs W := tabs_of_laid (laid := Rows.framingValidRow.laid) hL (by simp [Rows.framingValidRow]) (by simp [Rows.framingValidRow])
  refine (FramingValid_true x0 x1 W ⟨hy0, hz0⟩ ⟨hy1, hz1⟩ htab).mono fun e W' ⟨he, hb⟩ => ?_
  subst he
  exact ⟨_, rfl, law_post hW' rfl laidOut (by kernel_rfl) rfl Tryd.underlying4 (by rfl) hb⟩

noncomputable def wit : Array Value := #[.agg #[.string ⟨#[]⟩, .string ⟨#[]⟩], .agg #[.string ⟨#[]⟩, .string ⟨#[]⟩]]
theorem laid_met (os : Os) : laidMet Tryd.prog Rows.framingValidRow.laid ((World.laidAll Tryd.prog os Rows.framingValidRow.laid).forCall (fun _ _ => 0) ⟨#[], wit, []⟩).memory :=
  laidMet_laidAll wit (by kernel_rfl) (by kernel_rfl)
theorem reads (os : Os) {H : Type} (enc : TypeId × Value → H) : ∃ places, DataW.whole enc Tryd.prog ((World.laidAll Tryd.prog os Rows.framingValidRow.laid).forCall (fun _ _ => 0) ⟨#[], wit, []⟩).memory Tryd.f10.params.toList Rows.framingValidSpec.vars false wit.toList 8 = some ([.agg [.lit (.string []), .lit (.string [])], .agg [.lit (.string []), .lit (.string [])]], [], places) :=
  ⟨[], by kernel_rfl⟩

set_option maxRecDepth 100000 in
theorem lifted (os : Os) (started : os.Started) (H : Type) (enc : TypeId × Value → H) (F : Stop.Interp) :
    ReturnsInHanded {} Tryd.checked os 10 .any ((OpenSpec.ofChange Rows.framingValidSpec).preRow enc Tryd.prog Tryd.f10 Rows.framingValidRow.domain false Rows.framingValidRow.laid) (((OpenSpec.ofChange Rows.framingValidSpec).at F).post enc Tryd.prog Tryd.f10 false true false false) := by
  obtain ⟨places, hx⟩ := reads os enc
  refine returnsInHanded_of_row (C := Tryd.checked) (s := OpenSpec.ofChange Rows.framingValidSpec) own started (by kernel_rfl) Tryd.func10
    (witness_row_atRef (enc := enc) (C := Tryd.checked) false (World.laidAll Tryd.prog os Rows.framingValidRow.laid) wit (World.laidAll_os _ _ _) (by kernel_rfl) (by kernel_rfl) (by kernel_rfl)
      (OpenSpec.preRow_of_cond 8 hx (by kernel_rfl) (fun k hk => by cases hk) (by kernel_rfl) (laid_met os))) ?_
  intro W base args ds gs before hval hW _ _ _ hL _ _
  exact contract H enc W base args ds gs before hval hW hL

theorem gInPlace : Tryd.prog.inPlace 10 = (Rows.framingValidRow).inPlace := by kernel_rfl
theorem gUnfollowed : Tryd.prog.unfollowed 10 = (Rows.framingValidRow).unfollowed := by kernel_rfl
theorem gRecurses : Tryd.prog.recurses 10 = (Rows.framingValidRow).recurses := by kernel_rfl
theorem gNamed : Tryd.prog.varsNamed 10 = (Rows.framingValidRow).named := by kernel_rfl
theorem closed : joinedFacts Tryd.prog 10 Tryd.f10 (OpenSpec.ofChange Rows.framingValidSpec).bare Rows.framingValidRow = true := by
  unfold joinedFacts
  rw [gInPlace, gUnfollowed, gRecurses, gNamed]
  kernel_rfl
theorem asNamed : Tryd.prog.funcNamed Rows.framingValidRow.func = some 10 := by kernel_rfl
theorem inst : Tryd.f10.isInstance Tryd.prog Rows.framingValidRow.origin Rows.framingValidRow.targs := of_decide_eq_true (by kernel_rfl)
theorem wrap : Tryd.f10.isWrapper Tryd.prog Rows.framingValidRow.wrapper Rows.framingValidRow.mainSum := by unfold Func.isWrapper; first | (rw [if_pos (by decide +kernel)]; kernel_rfl) | (rw [if_neg (by decide +kernel)]; exact ⟨rfl, rfl⟩)
theorem said : Rows.FramingValidSaid :=
  OpenClaim.holds_of_cond 10 Tryd.f10 rfl rfl rfl rfl rfl rfl rfl ⟨rfl, rfl, rfl, rfl, rfl⟩ rfl rfl rfl rfl rfl asNamed Tryd.func10 closed inst wrap
    (fun os started H enc _ F => by rw [OpenClaim.pre_eq_preRow]; exact lifted os started H enc F)

theorem plain (f : FuncId) (fn : Func) (hf : Tryd.pinned.checked.prog.funcNamed "waypost/waypostlaw09.FramingValid" = some f) (hfn : Tryd.pinned.checked.prog.funcs[f]? = some fn) :
    true = Tryd.pinned.checked.prog.looks [] ∧ ∀ (j : Nat) t, fn.params[j]? = some t → Tryd.pinned.checked.prog.wantsStandIn t = false := by
  obtain rfl : f = 10 := Option.some.inj ((show Tryd.prog.funcNamed "waypost/waypostlaw09.FramingValid" = some 10 by kernel_rfl).symm.trans hf) |>.symm
  obtain rfl : fn = Tryd.f10 := (Option.some.inj (Tryd.func10.symm.trans hfn)).symm
  refine ⟨by kernel_rfl, fun j t ht => ?_⟩
  have hall : Tryd.f10.params.toList.all (fun t => !Tryd.prog.wantsStandIn t) = true := by kernel_rfl
  have hm : t ∈ Tryd.f10.params.toList := by simpa using Array.mem_of_getElem? ht
  have h1 := List.all_eq_true.1 hall t hm
  rw [Bool.not_eq_true'] at h1
  exact h1

theorem card : Rows.FramingValidCardSaid :=
  Claim7.holds_tied_plain_at .later [] _ _ _ _ said (fun _ h => by cases h) (by kernel_rfl) (fun _ h => by cases h) framingValid_row_tie rfl ⟨rfl, rfl⟩ (by kernel_rfl) rfl plain (by kernel_rfl)
end Go.Proofs.YtpdohlnobbimaaaDoor.framingValid
