/- The row of FnExactConstants, for every input; its conditions are those of the given row alone. -/
import Derived.Test.YtcckpcgmpmlioaaRows
import Derived.Test.YtcckpcgmpmlioaaPFnExactConstantsx1
import Derived.Test.YtcckpcgmpmlioaaPureFnExactConstants
import Derived.WalkKit
import Derived.Test.YtcckpcgmpmlioaaClose
import Derived.ProofKit
import Derived.OpenShut
import Derived.ShutString
import Derived.ChangeOld
import Derived.Below
import Derived.SizedLaws
namespace Go.Proofs.Ytcckpcgmpmlioaa.fnExactConstants
open Go.ChangeShapes Go.WideShapes Go.ChangeAt Go.RowKit
open Go.ChangeMaps (open_string shut_string)
set_option linter.unusedVariables false
theorem own : ownKnob Try.prog.godebug = none := by kernel_rfl
set_option maxRecDepth 100000 in
theorem lifted (os : Os) (started : os.Started) (H : Type) (enc : TypeId × Value → H) :
    ReturnsInHanded {} Try.checked os 3 .any (Rows.fnExactConstantsSpec.pre6 enc Try.prog Try.f3 Rows.fnExactConstantsRow.domain false) (Rows.fnExactConstantsSpec.post enc Try.prog Try.f3 false true false false) := by
  refine returnsInHanded_of_change_sized (C := Try.checked) own started (by kernel_rfl) Try.func3
    (ChangeSpec.witness6 (enc := enc) (C := Try.checked) false ⟨#[], #[], []⟩ 8 (by kernel_rfl) (by kernel_rfl) (by kernel_rfl) (by kernel_rfl)) ?_
  intro W base args ds gs before hval0 hW hcnd hsz0 _
  have hsz : (DataW.weightsEach Try.prog (Try.f3.params.toList ++ Rows.fnExactConstantsSpec.plain.varTypes Try.prog) (ds ++ gs)).all (· ≤ reachBytes) = true := hsz0
  have hval : ∀ (j : Nat) t v, Try.f3.params[j]? = some t → args[j]? = some v → Value.okWide Try.prog W .any base t v := hval0
  have hW' := hW
  obtain ⟨p, q, hA0, hV, rfl, hfz, hnd⟩ := hW
  have hA : DataW.TrodAll enc Try.prog W 0 (fun _ => true) true Try.f3.params.toList args.toList ds p := hA0
  rw [Try.params3] at hA hval hsz
  obtain ⟨rfl, rfl, rfl⟩ := trodAll_none hA
  obtain ⟨rfl, rfl⟩ := trodVars_none hV
  clear hA0 hval0 hsz0 hsz
  refine (PFnExactConstants.laws_FnExactConstants.walk Pure.FnExactConstants  W ).mono fun e W' ⟨he, bel⟩ => ?_
  subst he
  exact ⟨_, rfl, _, _, _, [], _, [], hW', trodAll_mk1 (shut_bool Try.underlying4 _), trodAll_mk0, rfl, bel.frame _, fun h => by cases h⟩
def T : List (Nat × List Nat) := [(3, [])]
def CL : List Nat := [3]
def SL : List Nat := [3]
theorem tabOK : (CL.all fun g => Close.tab T g == Close.leads Try.prog g) = true := by kernel_rfl
theorem closed : Try.prog.closure 3 = CL := Close.closure_eq Try.prog 3 T CL SL 1 tabOK (by kernel_rfl) (by decide) (by kernel_rfl) (by decide)
def HC : List Nat := [104, 97, 114, 110, 101, 115, 115, 32, 49, 97, 48, 49, 51, 102, 97, 51, 52, 50, 48, 49, 53, 99, 100, 99, 98, 54, 102, 50, 49, 48, 51, 55, 57, 54, 51, 98, 50, 54, 99, 56, 98, 56, 51, 49, 52, 99, 52, 54, 101, 101, 50, 52, 53, 56, 50, 56, 97, 99, 56, 49, 56, 100, 97, 97, 100, 98, 56, 102, 49, 54, 55, 50, 32, 99, 117, 116, 32, 97, 116, 32, 108, 111, 111, 112, 46, 101, 120, 97, 109, 112, 108, 101, 47, 103, 48, 48, 54, 57, 52, 47, 108, 97, 119, 115, 46, 70, 110, 69, 120, 97, 99, 116, 67, 111, 110, 115, 116, 97, 110, 116, 115, 32, 108, 111, 111, 112, 46, 101, 120, 97, 109, 112, 108, 101, 47, 103, 48, 48, 54, 57, 52, 47, 108, 97, 119, 115, 46, 70, 110, 69, 120, 97, 99, 116, 80, 111, 119, 101, 114, 79, 102, 32, 108, 111, 111, 112, 46, 101, 120, 97, 109, 112, 108, 101, 47, 103, 48, 48, 54, 57, 52, 47, 108, 97, 119, 115, 46, 70, 110, 69, 120, 97, 99, 116, 71, 111, 111, 100, 80, 97, 114, 101, 110, 116, 115, 32, 108, 111, 111, 112, 46, 101, 120, 97, 109, 112, 108, 101, 47, 103, 48, 48, 54, 57, 52, 47, 108, 97, 119, 115, 46, 70, 110, 69, 120, 97, 99, 116, 65, 114, 105, 116, 121, 79, 102, 32, 108, 111, 111, 112, 46, 101, 120, 97, 109, 112, 108, 101, 47, 103, 48, 48, 54, 57, 52, 47, 108, 97, 119, 115, 46, 70, 110, 69, 120, 97, 99, 116, 71, 111, 111, 100, 80, 97, 114, 116, 115, 32, 108, 111, 111, 112, 46, 101, 120, 97, 109, 112, 108, 101, 47, 103, 48, 48, 54, 57, 52, 47, 108, 97, 119, 115, 46, 70, 110, 69, 120, 97, 99, 116, 67, 111, 115, 116, 79, 102, 79, 112, 32, 108, 111, 111, 112, 46, 101, 120, 97, 109, 112, 108, 101, 47, 103, 48, 48, 54, 57, 52, 47, 108, 97, 119, 115, 46, 70, 110, 69, 120, 97, 99, 116, 70, 105, 110, 100, 82, 111, 111, 116, 32, 108, 111, 111, 112, 46, 101, 120, 97, 109, 112, 108, 101, 47, 103, 48, 48, 54, 57, 52, 47, 108, 97, 119, 115, 46, 70, 110, 69, 120, 97, 99, 116, 73, 115, 70, 105, 110, 101, 114, 80, 97, 114, 116, 115, 32, 108, 111, 111, 112, 46, 101, 120, 97, 109, 112, 108, 101, 47, 103, 48, 48, 54, 57, 52, 47, 108, 97, 119, 115, 46, 70, 110, 69, 120, 97, 99, 116, 67, 111, 117, 110, 116, 80, 97, 114, 116, 115, 32, 108, 111, 111, 112, 46, 101, 120, 97, 109, 112, 108, 101, 47, 103, 48, 48, 54, 57, 52, 47, 108, 97, 119, 115, 46, 70, 110, 69, 120, 97, 99, 116, 83, 97, 109, 101, 79, 117, 116, 99, 111, 109, 101, 32, 108, 111, 111, 112, 46, 101, 120, 97, 109, 112, 108, 101, 47, 103, 48, 48, 54, 57, 52, 47, 108, 97, 119, 115, 46, 70, 110, 69, 120, 97, 99, 116, 70, 108, 97, 116, 79, 102, 32, 108, 111, 111, 112, 46, 101, 120, 97, 109, 112, 108, 101, 47, 103, 48, 48, 54, 57, 52, 47, 108, 97, 119, 115, 46, 70, 110, 69, 120, 97, 99, 116, 77, 101, 101, 116, 80, 97, 114, 116, 115, 32, 108, 111, 111, 112, 46, 101, 120, 97, 109, 112, 108, 101, 47, 103, 48, 48, 54, 57, 52, 47, 108, 97, 119, 115, 46, 70, 110, 69, 120, 97, 99, 116, 77, 101, 109, 98, 101, 114, 115, 79, 102, 32, 108, 111, 111, 112, 46, 101, 120, 97, 109, 112, 108, 101, 47, 103, 48, 48, 54, 57, 52, 47, 108, 97, 119, 115, 46, 70, 110, 69, 120, 97, 99, 116, 85, 110, 105, 111, 110, 82, 111, 111, 116, 115, 32, 108, 111, 111, 112, 46, 101, 120, 97, 109, 112, 108, 101, 47, 103, 48, 48, 54, 57, 52, 47, 108, 97, 119, 115, 46, 70, 110, 69, 120, 97, 99, 116, 74, 111, 105, 110, 80, 97, 114, 116, 115, 32, 108, 111, 111, 112, 46, 101, 120, 97, 109, 112, 108, 101, 47, 103, 48, 48, 54, 57, 52, 47, 108, 97, 119, 115, 46, 70, 110, 69, 120, 97, 99, 116, 68, 111, 79, 112]
theorem head : Try.prog.initOrder.toList = HC.map Char.ofNat := by
  have h : Try.prog.initOrder = String.ofList (HC.map Char.ofNat) := by kernel_rfl
  rw [h, String.toList_ofList]
def WL : List (List Nat) := [[97, 116], [108, 111, 111, 112, 46, 101, 120, 97, 109, 112, 108, 101, 47, 103, 48, 48, 54, 57, 52, 47, 108, 97, 119, 115, 46, 70, 110, 69, 120, 97, 99, 116, 67, 111, 110, 115, 116, 97, 110, 116, 115], [108, 111, 111, 112, 46, 101, 120, 97, 109, 112, 108, 101, 47, 103, 48, 48, 54, 57, 52, 47, 108, 97, 119, 115, 46, 70, 110, 69, 120, 97, 99, 116, 80, 111, 119, 101, 114, 79, 102], [108, 111, 111, 112, 46, 101, 120, 97, 109, 112, 108, 101, 47, 103, 48, 48, 54, 57, 52, 47, 108, 97, 119, 115, 46, 70, 110, 69, 120, 97, 99, 116, 71, 111, 111, 100, 80, 97, 114, 101, 110, 116, 115], [108, 111, 111, 112, 46, 101, 120, 97, 109, 112, 108, 101, 47, 103, 48, 48, 54, 57, 52, 47, 108, 97, 119, 115, 46, 70, 110, 69, 120, 97, 99, 116, 65, 114, 105, 116, 121, 79, 102], [108, 111, 111, 112, 46, 101, 120, 97, 109, 112, 108, 101, 47, 103, 48, 48, 54, 57, 52, 47, 108, 97, 119, 115, 46, 70, 110, 69, 120, 97, 99, 116, 71, 111, 111, 100, 80, 97, 114, 116, 115], [108, 111, 111, 112, 46, 101, 120, 97, 109, 112, 108, 101, 47, 103, 48, 48, 54, 57, 52, 47, 108, 97, 119, 115, 46, 70, 110, 69, 120, 97, 99, 116, 67, 111, 115, 116, 79, 102, 79, 112], [108, 111, 111, 112, 46, 101, 120, 97, 109, 112, 108, 101, 47, 103, 48, 48, 54, 57, 52, 47, 108, 97, 119, 115, 46, 70, 110, 69, 120, 97, 99, 116, 70, 105, 110, 100, 82, 111, 111, 116], [108, 111, 111, 112, 46, 101, 120, 97, 109, 112, 108, 101, 47, 103, 48, 48, 54, 57, 52, 47, 108, 97, 119, 115, 46, 70, 110, 69, 120, 97, 99, 116, 73, 115, 70, 105, 110, 101, 114, 80, 97, 114, 116, 115], [108, 111, 111, 112, 46, 101, 120, 97, 109, 112, 108, 101, 47, 103, 48, 48, 54, 57, 52, 47, 108, 97, 119, 115, 46, 70, 110, 69, 120, 97, 99, 116, 67, 111, 117, 110, 116, 80, 97, 114, 116, 115], [108, 111, 111, 112, 46, 101, 120, 97, 109, 112, 108, 101, 47, 103, 48, 48, 54, 57, 52, 47, 108, 97, 119, 115, 46, 70, 110, 69, 120, 97, 99, 116, 83, 97, 109, 101, 79, 117, 116, 99, 111, 109, 101], [108, 111, 111, 112, 46, 101, 120, 97, 109, 112, 108, 101, 47, 103, 48, 48, 54, 57, 52, 47, 108, 97, 119, 115, 46, 70, 110, 69, 120, 97, 99, 116, 70, 108, 97, 116, 79, 102], [108, 111, 111, 112, 46, 101, 120, 97, 109, 112, 108, 101, 47, 103, 48, 48, 54, 57, 52, 47, 108, 97, 119, 115, 46, 70, 110, 69, 120, 97, 99, 116, 77, 101, 101, 116, 80, 97, 114, 116, 115], [108, 111, 111, 112, 46, 101, 120, 97, 109, 112, 108, 101, 47, 103, 48, 48, 54, 57, 52, 47, 108, 97, 119, 115, 46, 70, 110, 69, 120, 97, 99, 116, 77, 101, 109, 98, 101, 114, 115, 79, 102], [108, 111, 111, 112, 46, 101, 120, 97, 109, 112, 108, 101, 47, 103, 48, 48, 54, 57, 52, 47, 108, 97, 119, 115, 46, 70, 110, 69, 120, 97, 99, 116, 85, 110, 105, 111, 110, 82, 111, 111, 116, 115], [108, 111, 111, 112, 46, 101, 120, 97, 109, 112, 108, 101, 47, 103, 48, 48, 54, 57, 52, 47, 108, 97, 119, 115, 46, 70, 110, 69, 120, 97, 99, 116, 74, 111, 105, 110, 80, 97, 114, 116, 115], [108, 111, 111, 112, 46, 101, 120, 97, 109, 112, 108, 101, 47, 103, 48, 48, 54, 57, 52, 47, 108, 97, 119, 115, 46, 70, 110, 69, 120, 97, 99, 116, 68, 111, 79, 112]]
theorem words : behindMainWord (wordsSigns Try.prog.initOrder.toList) = "cut".toList :: WL.map (fun l => l.map Char.ofNat) := by rw [head]; kernel_rfl
def RL : List Nat := [3]
theorem fact0 : (Rows.fnExactConstantsRow.wf (OpenSpec.ofChange Rows.fnExactConstantsSpec)) = true := by kernel_rfl
theorem fact1 : (laidOutB Try.prog) = true := by kernel_rfl
theorem fact2 : (mapsRowed Try.prog) = true := by kernel_rfl
theorem fact3 : (Try.f3.params.all (Try.prog.readableRec ·)) = true := by kernel_rfl
theorem fact4 : (namedTie Try.prog Rows.fnExactConstantsRow.named Rows.fnExactConstantsSpec.vars) = true := by kernel_rfl
theorem fact5 : ((Rows.fnExactConstantsRow.stops == [])) = true := by kernel_rfl
theorem fact6 : ((Try.prog.stops == [])) = true := by kernel_rfl
theorem fact7 : ((Rows.fnExactConstantsRow.knobs == [])) = true := by kernel_rfl
theorem fact8 : ((Try.prog.stopKnobs == [])) = true := by kernel_rfl
theorem fact9 : ((Rows.fnExactConstantsRow.inPlace == Try.prog.inPlace 3)) = true := by unfold Program.inPlace; rw [closed]; kernel_rfl
theorem fact10 : ((Rows.fnExactConstantsRow.unfollowed == Try.prog.unfollowed 3)) = true := by unfold Program.unfollowed; rw [closed]; kernel_rfl
theorem fact11 : ((Rows.fnExactConstantsRow.recurses == Try.prog.recurses 3)) = true := by rw [Close.recurses_false Try.prog 3 T CL RL tabOK closed (by unfold Program.unfollowed; rw [closed]; kernel_rfl) (by kernel_rfl)]; rfl
theorem fact12 : ((Rows.fnExactConstantsRow.named == Try.prog.varsNamed 3)) = true := by unfold Program.varsNamed; rw [closed]; kernel_rfl
theorem fact13 : ((Rows.fnExactConstantsRow.maps == (Try.f3.params.toList ++ Rows.fnExactConstantsSpec.plain.varTypes Try.prog).any (Try.prog.mapsRec ·))) = true := by kernel_rfl
theorem fact14 : ((Rows.fnExactConstantsRow.ifaces == (Try.f3.params.toList ++ Rows.fnExactConstantsSpec.plain.varTypes Try.prog).any (Try.prog.ifacesRec ·))) = true := by kernel_rfl
theorem fact15 : ((Rows.fnExactConstantsRow.mapsOut == Try.prog.mapsAmong Try.f3.resultTypes.toList)) = true := by kernel_rfl
theorem fact16 : ((Rows.fnExactConstantsRow.loops == (Try.f3.params.toList ++ Rows.fnExactConstantsSpec.plain.varTypes Try.prog).any (Try.prog.loopsFrom ·))) = true := by kernel_rfl
theorem fact17 : ((Rows.fnExactConstantsRow.wideKeys == (Try.f3.params.toList ++ Rows.fnExactConstantsSpec.plain.varTypes Try.prog ++ Try.f3.resultTypes.toList).any (Try.prog.wideKeysFrom ·))) = true := by kernel_rfl
theorem fact18 : (Rows.fnExactConstantsSpec.vars.all (Try.prog.varReadable ·)) = true := by kernel_rfl
theorem fact19 : (Try.f3.resultTypes.all (fun t => Try.prog.readableRec t && decide (t < Try.prog.types.size))) = true := by kernel_rfl
theorem fact20 : ((Rows.fnExactConstantsRow.ifacesOut == Try.f3.resultTypes.toList.any (Try.prog.ifacesRec ·))) = true := by kernel_rfl
theorem fact21 : ((Rows.fnExactConstantsRow.loopsOut == Try.f3.resultTypes.toList.any (Try.prog.loopsFrom ·))) = true := by kernel_rfl
theorem fact22 : ((Rows.fnExactConstantsRow.plainKeys == Try.prog.plainKeys)) = true := by kernel_rfl
theorem fact23 : (Rows.fnExactConstantsRow.shortTexts.isNone) = true := by kernel_rfl
theorem fact24 : (Try.prog.stopsHeard) = true := by kernel_rfl
theorem fact25 : (Try.prog.mayEnter) = true := Close.may_enter Try.prog _ words (by kernel_rfl) (by kernel_rfl) (by kernel_rfl)
theorem fact26 : ((Rows.fnExactConstantsRow.lifted == Try.prog.liftsFinal)) = true := by rw [Close.lifts_final Try.prog _ words]; rfl
theorem fact27 : ((Try.prog.make == some Rows.fnExactConstantsRow.make)) = true := by rw [Close.make_cut Try.prog _ words]; rfl
theorem fact28 : ((Rows.fnExactConstantsRow.kinds == (if Rows.fnExactConstantsRow.domain.isEmpty then [] else Try.f3.params.toList.map fun t => match Try.prog.underlying t with | some (.int k) => some k | _ => none))) = true := by kernel_rfl
theorem fact29 : ((Rows.fnExactConstantsRow.pinned == Rows.fnExactConstantsRow.pinnedBy)) = true := by kernel_rfl
theorem fact30 : ((Rows.fnExactConstantsRow.veiled == (Try.f3.params.toList ++ Rows.fnExactConstantsSpec.plain.varTypes Try.prog ++ Try.f3.resultTypes.toList).any (Try.prog.veiledRec ·))) = true := by kernel_rfl
theorem fact31 : (Rows.fnExactConstantsRow.veiledFits Try.prog Try.f3.params.toList (Try.f3.params.toList ++ Rows.fnExactConstantsSpec.plain.varTypes Try.prog ++ Try.f3.resultTypes.toList)) = true := by kernel_rfl
theorem facts : joinedFacts Try.prog 3 Try.f3 Rows.fnExactConstantsSpec Rows.fnExactConstantsRow = true := by
  unfold joinedFacts
  simp only [Bool.and_eq_true]
  exact ⟨⟨⟨⟨⟨⟨⟨⟨⟨⟨⟨⟨⟨⟨⟨⟨⟨⟨⟨⟨⟨⟨⟨⟨⟨⟨⟨⟨⟨⟨⟨fact0, fact1⟩, fact2⟩, fact3⟩, fact4⟩, fact5⟩, fact6⟩, fact7⟩, fact8⟩, fact9⟩, fact10⟩, fact11⟩, fact12⟩, fact13⟩, fact14⟩, fact15⟩, fact16⟩, fact17⟩, fact18⟩, fact19⟩, fact20⟩, fact21⟩, fact22⟩, fact23⟩, fact24⟩, fact25⟩, fact26⟩, fact27⟩, fact28⟩, fact29⟩, fact30⟩, fact31⟩
theorem named : Try.prog.funcNamed Rows.fnExactConstantsRow.func = some 3 := by kernel_rfl
theorem inst : Try.f3.isInstance Try.prog Rows.fnExactConstantsRow.origin Rows.fnExactConstantsRow.targs := of_decide_eq_true (by kernel_rfl)
theorem wrap : Try.f3.isWrapper Try.prog Rows.fnExactConstantsRow.wrapper Rows.fnExactConstantsRow.mainSum := by unfold Func.isWrapper; first | (rw [if_pos (by decide +kernel)]; kernel_rfl) | (rw [if_neg (by decide +kernel)]; exact ⟨rfl, rfl⟩)
theorem over : Rows.fnExactConstantsRow.holds Try.pinned (OpenSpec.ofChange Rows.fnExactConstantsSpec) :=
  OpenClaim.holds_of_wide 3 Try.f3 rfl rfl rfl rfl rfl rfl rfl ⟨rfl, rfl, rfl, rfl, rfl⟩ rfl rfl rfl rfl rfl named Try.func3 facts inst wrap
    (fun os started H enc _ => lifted os started H enc)
theorem proved : Rows.FnExactConstantsSaid := over
#print axioms proved
end Go.Proofs.Ytcckpcgmpmlioaa.fnExactConstants
namespace Go.Proofs.Ytcckpcgmpmlioaa
/-- The row, under a short name, for the claim. -/
theorem fnExactConstants_holds : Rows.FnExactConstantsSaid := fnExactConstants.proved
end Go.Proofs.Ytcckpcgmpmlioaa
