/-
  FieldLooks: for every list of fields and every name the call returns true, and each argument reads as before. Conditions: the package variables hold what their initialisers lay (tied by the card).
-/
import Derived.Test.YtepemdmjbfoiaaaDoorCards
import Derived.Test.YtepemdmjbfoiaaaDoorTie
import Derived.Test.YtepemdmjbfoiaaaDoorCb
import Derived.Test.YtepemdmjbfoiaaaDoorLFldLooks
import Derived.Test.YtepemdmjbfoiaaaDoorOpenF
namespace Go.Proofs.YtepemdmjbfoiaaaDoor.fieldLooks
open Go.ChangeShapes Go.WideShapes Go.ChangeAt Go.RowKit
open Go.ChangeMaps (open_string shut_string)

set_option maxRecDepth 100000 in
theorem contract (H : Type) (enc : TypeId × Value → H) (W : World) (base : Nat) (args : Array Value) (ds gs : List (DataW H)) (before : List MemPlace)
    (hval : ∀ (j : Nat) t v, Tryd.f13.params[j]? = some t → args[j]? = some v → Value.okWide Tryd.prog W .any base t v)
    (hW : DataW.Whole enc Tryd.prog Tryd.f13.params.toList Rows.fieldLooksSpec.vars false W args.toList ds gs before) (_hL : laidMetH Tryd.prog Rows.fieldLooksRow.laid W) :
    Calls Tryd.prog 13 args W fun e W' => ∃ v, e = .returned v ∧ Rows.fieldLooksSpec.post enc Tryd.prog Tryd.f13 false true false false W args v W' := by
  have hW' := hW
  obtain ⟨p, q, hA0, hV, rfl, hfz, hnd⟩ := hW
  have hA : DataW.TrodAll enc Tryd.prog W 0 (fun _ => true) true Tryd.f13.params.toList args.toList ds p := hA0
  rw [Tryd.params13] at hA hval
  obtain ⟨v0, vs0, d0, ds0, p0, q0, hargs, rfl, rfl, h0, r0⟩ := trodAll_cons hA
  obtain ⟨v1, vs1, d1, ds1, p1, q1, rfl, rfl, rfl, h1, r1⟩ := trodAll_cons r0
  obtain ⟨rfl, rfl, rfl⟩ := trodAll_nil r1
  obtain rfl : args = #[v0, v1] := by cases args; simp_all
  obtain ⟨rfl, rfl⟩ := trodVars_none hV
  obtain ⟨A0, l0, c0, xs0, rfl, hl0, hc0, hr0, hz0⟩ := open_flds Tryd.underlying44 Tryd.underlying52 (by kernel_rfl) rfl rfl rfl rfl Tryd.underlying9 (by kernel_rfl) (hval 0 44 v0 rfl rfl) h0
  unfold maxLen at hl0 hz0
  obtain ⟨s1, rfl, rfl, rfl, w1⟩ := open_string Tryd.underlying9 (hval 1 9 v1 rfl rfl) h1
  have b1 : s1.size ≤ 9223372036854775807 := by unfold maxLen at w1; exact w1
  refine (FieldLooks_true A0 l0 c0 xs0 s1 W (by omega) hr0 hz0 b1).mono fun e W' ⟨he, hb⟩ => ?_
  subst he
  exact ⟨_, rfl, law_post hW' rfl laidOut (by kernel_rfl) rfl Tryd.underlying4 (by rfl) hb⟩

noncomputable def wit : Array Value := #[.slice none 0 0, .string ⟨#[]⟩]
theorem laid_met (os : Os) : laidMet Tryd.prog Rows.fieldLooksRow.laid ((laidWorld Rows.fieldLooksRow.laid os).forCall (fun _ _ => 0) ⟨#[], wit, []⟩).memory :=
  laidMet_of_run' 8 (by kernel_rfl) (by kernel_rfl)
theorem reads (os : Os) {H : Type} (enc : TypeId × Value → H) : ∃ places, DataW.whole enc Tryd.prog ((laidWorld Rows.fieldLooksRow.laid os).forCall (fun _ _ => 0) ⟨#[], wit, []⟩).memory Tryd.f13.params.toList Rows.fieldLooksSpec.vars false wit.toList 8 = some ([.nil, .lit (.string [])], [], places) :=
  ⟨[], by kernel_rfl⟩

set_option maxRecDepth 100000 in
theorem lifted (os : Os) (started : os.Started) (H : Type) (enc : TypeId × Value → H) (F : Stop.Interp) :
    ReturnsInHanded {} Tryd.checked os 13 .any ((OpenSpec.ofChange Rows.fieldLooksSpec).preRow enc Tryd.prog Tryd.f13 Rows.fieldLooksRow.domain false Rows.fieldLooksRow.laid) (((OpenSpec.ofChange Rows.fieldLooksSpec).at F).post enc Tryd.prog Tryd.f13 false true false false) := by
  obtain ⟨places, hx⟩ := reads os enc
  refine returnsInHanded_of_row (C := Tryd.checked) (s := OpenSpec.ofChange Rows.fieldLooksSpec) own started (by kernel_rfl) Tryd.func13
    (witness_row_at (enc := enc) (C := Tryd.checked) false (laidWorld Rows.fieldLooksRow.laid os) wit rfl (by kernel_rfl) (by kernel_rfl) (by kernel_rfl)
      (OpenSpec.preRow_of_cond 8 hx (by kernel_rfl) (fun k hk => by cases hk) (by kernel_rfl) (laid_met os))) ?_
  intro W base args ds gs before hval hW _ _ _ hL _ _
  exact contract H enc W base args ds gs before hval hW hL

theorem gInPlace : Tryd.prog.inPlace 13 = (Rows.fieldLooksRow).inPlace := by kernel_rfl
theorem gUnfollowed : Tryd.prog.unfollowed 13 = (Rows.fieldLooksRow).unfollowed := by kernel_rfl
theorem gRecurses : Tryd.prog.recurses 13 = (Rows.fieldLooksRow).recurses := by kernel_rfl
theorem gNamed : Tryd.prog.varsNamed 13 = (Rows.fieldLooksRow).named := by kernel_rfl
theorem closed : joinedFacts Tryd.prog 13 Tryd.f13 (OpenSpec.ofChange Rows.fieldLooksSpec).bare Rows.fieldLooksRow = true := by
  unfold joinedFacts
  rw [gInPlace, gUnfollowed, gRecurses, gNamed]
  kernel_rfl
theorem asNamed : Tryd.prog.funcNamed Rows.fieldLooksRow.func = some 13 := by kernel_rfl
theorem inst : Tryd.f13.isInstance Tryd.prog Rows.fieldLooksRow.origin Rows.fieldLooksRow.targs := of_decide_eq_true (by kernel_rfl)
theorem wrap : Tryd.f13.isWrapper Tryd.prog Rows.fieldLooksRow.wrapper Rows.fieldLooksRow.mainSum := by unfold Func.isWrapper; first | (rw [if_pos (by decide +kernel)]; kernel_rfl) | (rw [if_neg (by decide +kernel)]; exact ⟨rfl, rfl⟩)
theorem said : Rows.FieldLooksSaid :=
  OpenClaim.holds_of_cond 13 Tryd.f13 rfl rfl rfl rfl rfl rfl rfl ⟨rfl, rfl, rfl, rfl, rfl⟩ rfl rfl rfl rfl rfl asNamed Tryd.func13 closed inst wrap
    (fun os started H enc _ F => by rw [OpenClaim.pre_eq_preRow]; exact lifted os started H enc F)

theorem plain (f : FuncId) (fn : Func) (hf : Tryd.pinned.checked.prog.funcNamed "waypost/waypostlaw06.FieldLooks" = some f) (hfn : Tryd.pinned.checked.prog.funcs[f]? = some fn) :
    false = Tryd.pinned.checked.prog.looks [] ∧ ∀ (j : Nat) t, fn.params[j]? = some t → Tryd.pinned.checked.prog.wantsStandIn t = false := by
  obtain rfl : f = 13 := Option.some.inj ((show Tryd.prog.funcNamed "waypost/waypostlaw06.FieldLooks" = some 13 by kernel_rfl).symm.trans hf) |>.symm
  obtain rfl : fn = Tryd.f13 := (Option.some.inj (Tryd.func13.symm.trans hfn)).symm
  refine ⟨by kernel_rfl, fun j t ht => ?_⟩
  have hall : Tryd.f13.params.toList.all (fun t => !Tryd.prog.wantsStandIn t) = true := by kernel_rfl
  have hm : t ∈ Tryd.f13.params.toList := by simpa using Array.mem_of_getElem? ht
  have h1 := List.all_eq_true.1 hall t hm
  rw [Bool.not_eq_true'] at h1
  exact h1

theorem card : Rows.FieldLooksCardSaid :=
  Claim7.holds_tied_plain_at .later [] _ _ _ _ said (fun _ h => by cases h) (by kernel_rfl) (fun _ h => by cases h) fieldLooks_row_tie rfl ⟨rfl, rfl⟩ (by kernel_rfl) rfl plain (by kernel_rfl)
end Go.Proofs.YtepemdmjbfoiaaaDoor.fieldLooks
