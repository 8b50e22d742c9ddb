/-
  RespondSafe: for every response the call returns true, and the argument reads as before. Conditions: the package variables hold what their initialisers lay (tied by the card).
-/
import Derived.Test.YthhlnpfcpgfcfaaGreatDoorCards
import Derived.Test.YthhlnpfcpgfcfaaGreatDoorTie
import Derived.Test.YthhlnpfcpgfcfaaGreatDoorCb
import Derived.Test.YthhlnpfcpgfcfaaGreatDoorLRsSafe
import Derived.Test.YthhlnpfcpgfcfaaGreatDoorAw12
import Derived.Test.YthhlnpfcpgfcfaaGreatDoorRsTabs
import Derived.Test.YthhlnpfcpgfcfaaGreatDoorOpenR
import Derived.Lay
import Derived.Deep.DeepWitnessRowRef
namespace Go.Proofs.YthhlnpfcpgfcfaaGreatDoor.respondSafe
open Go.ChangeShapes Go.WideShapes Go.ChangeAt Go.RowKit
open Go.ChangeMaps (open_string shut_string)

set_option maxRecDepth 100000 in
theorem contract (H : Type) (enc : TypeId × Value → H) (W : World) (base : Nat) (args : Array Value) (ds gs : List (DataW H)) (before : List MemPlace)
    (hval : ∀ (j : Nat) t v, Tryz.f3.params[j]? = some t → args[j]? = some v → Value.okWide Tryz.prog W .any base t v)
    (hW : DataW.Whole enc Tryz.prog Tryz.f3.params.toList Rows.respondSafeSpec.vars false W args.toList ds gs before) (hL : laidMetH Tryz.prog Rows.respondSafeRow.laid W) (hshape : W.ShapedOpen Tryz.prog) :
    Calls Tryz.prog 3 args W fun e W' => ∃ v, e = .returned v ∧ Rows.respondSafeSpec.post enc Tryz.prog Tryz.f3 false true false false W args v W' := by
  have hW' := hW
  obtain ⟨p, q, hA0, hV, rfl, hfz, hnd⟩ := hW
  have hA : DataW.TrodAll enc Tryz.prog W 0 (fun _ => true) true Tryz.f3.params.toList args.toList ds p := hA0
  rw [Tryz.params3] at hA hval
  obtain ⟨v0, vs0, d0, ds0, p0, q0, hargs, rfl, rfl, h0, r0⟩ := trodAll_cons hA
  obtain ⟨rfl, rfl, rfl⟩ := trodAll_nil r0
  obtain rfl : args = #[v0] := by cases args; simp_all
  obtain ⟨rfl, rfl⟩ := trodVars_none hV
  obtain ⟨R0, A0, l0, c0, rfl, hl0, hc0, hr0, hb0, hx0⟩ := open_rsp (hval 0 24 v0 rfl rfl) h0
  unfold maxLen at hl0 hb0 hx0
  have hw : Tab12 W := tab12_of (laid := Rows.respondSafeRow.laid) hL hshape (by simp [Rows.respondSafeRow]) (by simp [Rows.respondSafeRow]) (by simp [Rows.respondSafeRow]) (by simp [Rows.respondSafeRow]) (by simp [Rows.respondSafeRow]) (by simp [Rows.respondSafeRow]) (by simp [Rows.respondSafeRow]) (by kernel_rfl) (by kernel_rfl)
  refine (RespondSafe_of awake12 R0 A0 l0 c0 W hr0 hl0 hb0 hx0 hw).mono fun e W' ⟨he, hb⟩ => ?_
  subst he
  exact ⟨_, rfl, law_post hW' rfl laidOut (by kernel_rfl) rfl Tryz.underlying4 (by rfl) hb⟩

noncomputable def wit : Array Value := #[.agg #[.int .i64 0, .slice none 0 0, .string ⟨#[]⟩, .bool false, .bool false]]
theorem laid_met (os : Os) : laidMet Tryz.prog Rows.respondSafeRow.laid ((World.laidAll Tryz.prog os Rows.respondSafeRow.laid).forCall (fun _ _ => 0) ⟨#[], wit, []⟩).memory :=
  laidMet_laidAll wit (by kernel_rfl) (by kernel_rfl)
theorem reads (os : Os) {H : Type} (enc : TypeId × Value → H) : ∃ places, DataW.whole enc Tryz.prog ((World.laidAll Tryz.prog os Rows.respondSafeRow.laid).forCall (fun _ _ => 0) ⟨#[], wit, []⟩).memory Tryz.f3.params.toList Rows.respondSafeSpec.vars false wit.toList 8 = some ([.agg [.lit (.int .i64 0), .nil, .lit (.string []), .lit (.bool false), .lit (.bool false)]], [], places) :=
  ⟨[], by kernel_rfl⟩

set_option maxRecDepth 100000 in
theorem lifted (os : Os) (started : os.Started) (H : Type) (enc : TypeId × Value → H) (F : Stop.Interp) :
    ReturnsInHanded {} Tryz.checked os 3 .any ((OpenSpec.ofChange Rows.respondSafeSpec).preRow enc Tryz.prog Tryz.f3 Rows.respondSafeRow.domain false Rows.respondSafeRow.laid) (((OpenSpec.ofChange Rows.respondSafeSpec).at F).post enc Tryz.prog Tryz.f3 false true false false) := by
  obtain ⟨places, hx⟩ := reads os enc
  refine returnsInHanded_of_row (C := Tryz.checked) (s := OpenSpec.ofChange Rows.respondSafeSpec) own started (by kernel_rfl) Tryz.func3
    (witness_row_atRef (enc := enc) (C := Tryz.checked) false (World.laidAll Tryz.prog os Rows.respondSafeRow.laid) wit (World.laidAll_os _ _ _) (by kernel_rfl) (by kernel_rfl) (by kernel_rfl)
      (OpenSpec.preRow_of_cond 8 hx (by kernel_rfl) (fun k hk => by cases hk) (by kernel_rfl) (laid_met os))) ?_
  intro W base args ds gs before hval hW _ _ _ hL hshape _
  exact contract H enc W base args ds gs before hval hW hL hshape

theorem gInPlace : Tryz.prog.inPlace 3 = (Rows.respondSafeRow).inPlace := by kernel_rfl
theorem gUnfollowed : Tryz.prog.unfollowed 3 = (Rows.respondSafeRow).unfollowed := by kernel_rfl
theorem gRecurses : Tryz.prog.recurses 3 = (Rows.respondSafeRow).recurses := by kernel_rfl
theorem gNamed : Tryz.prog.varsNamed 3 = (Rows.respondSafeRow).named := by kernel_rfl
theorem closed : joinedFacts Tryz.prog 3 Tryz.f3 (OpenSpec.ofChange Rows.respondSafeSpec).bare Rows.respondSafeRow = true := by
  unfold joinedFacts
  rw [gInPlace, gUnfollowed, gRecurses, gNamed]
  kernel_rfl
theorem asNamed : Tryz.prog.funcNamed Rows.respondSafeRow.func = some 3 := by kernel_rfl
theorem inst : Tryz.f3.isInstance Tryz.prog Rows.respondSafeRow.origin Rows.respondSafeRow.targs := of_decide_eq_true (by kernel_rfl)
theorem wrap : Tryz.f3.isWrapper Tryz.prog Rows.respondSafeRow.wrapper Rows.respondSafeRow.mainSum := by unfold Func.isWrapper; first | (rw [if_pos (by decide +kernel)]; kernel_rfl) | (rw [if_neg (by decide +kernel)]; exact ⟨rfl, rfl⟩)
theorem said : Rows.RespondSafeSaid :=
  OpenClaim.holds_of_cond 3 Tryz.f3 rfl rfl rfl rfl rfl rfl rfl ⟨rfl, rfl, rfl, rfl, rfl⟩ rfl rfl rfl rfl rfl asNamed Tryz.func3 closed inst wrap
    (fun os started H enc _ F => by rw [OpenClaim.pre_eq_preRow]; exact lifted os started H enc F)

theorem plain (f : FuncId) (fn : Func) (hf : Tryz.pinned.checked.prog.funcNamed "waypost/waypostlaw12.RespondSafe" = some f) (hfn : Tryz.pinned.checked.prog.funcs[f]? = some fn) :
    true = Tryz.pinned.checked.prog.looks [] ∧ ∀ (j : Nat) t, fn.params[j]? = some t → Tryz.pinned.checked.prog.wantsStandIn t = false := by
  obtain rfl : f = 3 := Option.some.inj ((show Tryz.prog.funcNamed "waypost/waypostlaw12.RespondSafe" = some 3 by kernel_rfl).symm.trans hf) |>.symm
  obtain rfl : fn = Tryz.f3 := (Option.some.inj (Tryz.func3.symm.trans hfn)).symm
  refine ⟨by kernel_rfl, fun j t ht => ?_⟩
  have hall : Tryz.f3.params.toList.all (fun t => !Tryz.prog.wantsStandIn t) = true := by kernel_rfl
  have hm : t ∈ Tryz.f3.params.toList := by simpa using Array.mem_of_getElem? ht
  have h1 := List.all_eq_true.1 hall t hm
  rw [Bool.not_eq_true'] at h1
  exact h1

theorem card : Rows.RespondSafeCardSaid :=
  Claim7.holds_tied_plain_at .later [] _ _ _ _ said (fun _ h => by cases h) (by kernel_rfl) (fun _ h => by cases h) respondSafe_row_tie rfl ⟨rfl, rfl⟩ (by kernel_rfl) rfl plain (by kernel_rfl)
end Go.Proofs.YthhlnpfcpgfcfaaGreatDoor.respondSafe
