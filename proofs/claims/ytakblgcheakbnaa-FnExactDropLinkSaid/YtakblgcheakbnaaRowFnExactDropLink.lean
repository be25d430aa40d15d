/- The row of FnExactDropLink, for every input; its conditions are those of the given row alone. -/
import Derived.Test.YtakblgcheakbnaaRows
import Derived.Test.YtakblgcheakbnaaPFnExactDropLinkx6
import Derived.Test.YtakblgcheakbnaaRdFnExactDropLink
import Derived.Test.YtakblgcheakbnaaPureFnExactDropLink
import Derived.WalkKit
import Derived.Test.YtakblgcheakbnaaClose
import Derived.ProofKit
import Derived.OpenShut
import Derived.ShutString
import Derived.ChangeOld
import Derived.Below
import Derived.SizedLaws
namespace Go.Proofs.Ytakblgcheakbnaa.fnExactDropLink
open Go.ChangeShapes Go.WideShapes Go.ChangeAt Go.RowKit
open Go.ChangeMaps (open_string shut_string)
set_option linter.unusedVariables false
theorem own : ownKnob Try.prog.godebug = none := by kernel_rfl
theorem laidOut : laidOutB Try.prog = true := by kernel_rfl
set_option maxRecDepth 100000 in
theorem lifted (os : Os) (started : os.Started) (H : Type) (enc : TypeId × Value → H) :
    ReturnsInHanded {} Try.checked os 6 .any (Rows.fnExactDropLinkSpec.pre6 enc Try.prog Try.f6 Rows.fnExactDropLinkRow.domain false) (Rows.fnExactDropLinkSpec.post enc Try.prog Try.f6 false true false false) := by
  refine returnsInHanded_of_change_sized (C := Try.checked) own started (by kernel_rfl) Try.func6
    (ChangeSpec.witness6 (enc := enc) (C := Try.checked) false ⟨#[], #[.agg #[.slice none 0 0, .slice none 0 0], .int .i64 0], []⟩ 8 (by kernel_rfl) (by kernel_rfl) (by kernel_rfl) (by kernel_rfl)) ?_
  intro W base args ds gs before hval0 hW hcnd hsz0 _
  have hval : ∀ (j : Nat) t v, Try.f6.params[j]? = some t → args[j]? = some v → Value.okWide Try.prog W .any base t v := hval0
  have hW' := hW
  obtain ⟨p, q, hA0, hV, rfl, hfz, hnd⟩ := hW
  have hA : DataW.TrodAll enc Try.prog W 0 (fun _ => true) true Try.f6.params.toList args.toList ds p := hA0
  rw [Try.params6] at hA hval
  obtain ⟨v0, vs0, d0, ds0, p0, q0, hargs, rfl, rfl, h0, r0⟩ := trodAll_cons hA
  obtain ⟨v1, vs1, d1, ds1, p1, q1, rfl, rfl, rfl, h1, r1⟩ := trodAll_cons r0
  obtain ⟨rfl, rfl, rfl⟩ := trodAll_nil r1
  obtain rfl : args = #[v0, v1] := by cases args; simp_all
  obtain ⟨rfl, rfl⟩ := trodVars_none hV
  have k0 := h0
  have lt0 : ∀ x ∈ p0, x.block < W.heap.size := by obtain ⟨m, hm⟩ := k0; exact DataW.trod_lt m _ _ _ hm
  obtain ⟨⟨cl0⟩, rfl, _⟩ := okWide_struct Try.underlying55 (hval 0 55 v0 rfl rfl)
  obtain ⟨x0, kk0, ok0⟩ := Open.of_trod RdFnExactDropLink.reads55 h0
  obtain ⟨A0_0, c0_0, A0_1, c0_1, e0, l0_0, g0_0, l0_1, g0_1⟩ := PFnExactDropLink.k55_open kk0
  obtain rfl : cl0 = _ := e0
  obtain ⟨a1, rfl, rfl, rfl, w1⟩ := open_int Try.underlying3 (hval 1 3 v1 rfl rfl) h1
  clear hA0 hval0 hsz0
  obtain ⟨k, hp⟩ := Pure.FnExactDropLink x0 a1 ok0 g0_0.2.1 g0_1.2.1 w1
  refine (PFnExactDropLink.laws_FnExactDropLink.calls k _ _ x0.f0 _ _ x0.f1 a1 true W g0_0 l0_0 g0_1 l0_1 hp).mono fun e W' ⟨he, bel⟩ => ?_
  subst he
  exact ⟨_, rfl, _, _, _, [], _, [], hW', trodAll_mk1 (shut_bool Try.underlying4 _), (trodAll_cons_mk (Below.trod laidOut (by kernel_rfl) (of_decide_eq_true (by kernel_rfl)) k0 bel lt0) (trodAll_cons_mk (shut_int Try.underlying3 w1) trodAll_mk0)), rfl, bel.frame _, fun h => by cases h⟩
def T : List (Nat × List Nat) := [(6, [37, 39, 38, 39, 40, 41, 39, 41, 42, 41, 42, 43, 39, 40, 41, 43]), (37, [51, 95]), (51, [111]), (111, [74]), (74, []), (95, []), (39, [53, 98]), (53, [113]), (113, [54]), (54, []), (98, [152]), (152, []), (38, [96, 97]), (96, []), (97, [140]), (140, []), (40, [99, 100, 102, 101]), (99, []), (100, [114]), (114, []), (102, []), (101, []), (41, [56, 103]), (56, [117]), (117, [46]), (46, []), (103, [153]), (153, []), (42, [57, 104]), (57, [47]), (47, []), (104, []), (43, [105, 106]), (105, [48]), (48, []), (106, [])]
def CL : List Nat := [6, 37, 51, 111, 74, 95, 39, 53, 113, 54, 98, 152, 38, 96, 97, 140, 40, 99, 100, 114, 102, 101, 41, 56, 117, 46, 103, 153, 42, 57, 47, 104, 43, 105, 48, 106]
def SL : List Nat := [6, 37, 38, 39, 40, 41, 42, 43, 46, 47, 48, 51, 53, 54, 56, 57, 74, 95, 96, 97, 98, 99, 100, 101, 102, 103, 104, 105, 106, 111, 113, 114, 117, 140, 152, 153]
theorem tabOK : (CL.all fun g => Close.tab T g == Close.leads Try.prog g) = true := by kernel_rfl
theorem closed : Try.prog.closure 6 = CL := Close.closure_eq Try.prog 6 T CL SL 45 tabOK (by kernel_rfl) (by decide) (by kernel_rfl) (by decide)
def HC : List Nat := [104, 97, 114, 110, 101, 115, 115, 32, 51, 98, 102, 98, 51, 97, 98, 102, 97, 56, 57, 102, 101, 49, 52, 56, 51, 48, 56, 97, 48, 57, 99, 57, 102, 48, 99, 49, 101, 51, 97, 101, 52, 49, 51, 49, 97, 56, 48, 48, 57, 101, 98, 55, 53, 55, 53, 51, 54, 49, 57, 49, 55, 51, 56, 51, 54, 55, 100, 54, 52, 51, 48, 99, 32, 99, 117, 116, 32, 97, 116, 32, 108, 111, 111, 112, 46, 101, 120, 97, 109, 112, 108, 101, 47, 103, 48, 48, 54, 57, 52, 47, 108, 97, 119, 115, 46, 70, 110, 69, 120, 97, 99, 116, 77, 97, 116, 99, 104, 65, 116, 32, 108, 111, 111, 112, 46, 101, 120, 97, 109, 112, 108, 101, 47, 103, 48, 48, 54, 57, 52, 47, 108, 97, 119, 115, 46, 70, 110, 69, 120, 97, 99, 116, 65, 108, 108, 77, 97, 116, 99, 104, 101, 115, 32, 108, 111, 111, 112, 46, 101, 120, 97, 109, 112, 108, 101, 47, 103, 48, 48, 54, 57, 52, 47, 108, 97, 119, 115, 46, 70, 110, 69, 120, 97, 99, 116, 71, 111, 111, 100, 71, 114, 97, 112, 104, 32, 108, 111, 111, 112, 46, 101, 120, 97, 109, 112, 108, 101, 47, 103, 48, 48, 54, 57, 52, 47, 108, 97, 119, 115, 46, 70, 110, 69, 120, 97, 99, 116, 68, 114, 111, 112, 76, 105, 110, 107, 32, 108, 111, 111, 112, 46, 101, 120, 97, 109, 112, 108, 101, 47, 103, 48, 48, 54, 57, 52, 47, 108, 97, 119, 115, 46, 70, 110, 69, 120, 97, 99, 116, 67, 108, 97, 115, 115, 101, 115, 73, 110, 32, 108, 111, 111, 112, 46, 101, 120, 97, 109, 112, 108, 101, 47, 103, 48, 48, 54, 57, 52, 47, 108, 97, 119, 115, 46, 70, 110, 69, 120, 97, 99, 116, 78, 111, 100, 101, 115, 73, 110, 32, 108, 111, 111, 112, 46, 101, 120, 97, 109, 112, 108, 101, 47, 103, 48, 48, 54, 57, 52, 47, 108, 97, 119, 115, 46, 70, 110, 69, 120, 97, 99, 116, 67, 108, 111, 115, 101, 100, 32, 108, 111, 111, 112, 46, 101, 120, 97, 109, 112, 108, 101, 47, 103, 48, 48, 54, 57, 52, 47, 108, 97, 119, 115, 46, 70, 110, 69, 120, 97, 99, 116, 67, 104, 111, 115, 101, 110, 73, 110, 32, 108, 111, 111, 112, 46, 101, 120, 97, 109, 112, 108, 101, 47, 103, 48, 48, 54, 57, 52, 47, 108, 97, 119, 115, 46, 70, 110, 69, 120, 97, 99, 116, 66, 101, 115, 116, 67, 111, 115, 116, 115, 32, 108, 111, 111, 112, 46, 101, 120, 97, 109, 112, 108, 101, 47, 103, 48, 48, 54, 57, 52, 47, 108, 97, 119, 115, 46, 70, 110, 69, 120, 97, 99, 116, 73, 115, 77, 97, 116, 99, 104, 32, 108, 111, 111, 112, 46, 101, 120, 97, 109, 112, 108, 101, 47, 103, 48, 48, 54, 57, 52, 47, 108, 97, 119, 115, 46, 70, 110, 69, 120, 97, 99, 116, 70, 105, 110, 100, 84, 101, 114, 109, 32, 108, 111, 111, 112, 46, 101, 120, 97, 109, 112, 108, 101, 47, 103, 48, 48, 54, 57, 52, 47, 108, 97, 119, 115, 46, 70, 110, 69, 120, 97, 99, 116, 72, 111, 108, 100, 115, 84, 101, 114, 109, 32, 108, 111, 111, 112, 46, 101, 120, 97, 109, 112, 108, 101, 47, 103, 48, 48, 54, 57, 52, 47, 108, 97, 119, 115, 46, 70, 110, 69, 120, 97, 99, 116, 77, 101, 114, 103, 101, 32, 108, 111, 111, 112, 46, 101, 120, 97, 109, 112, 108, 101, 47, 103, 48, 48, 54, 57, 52, 47, 108, 97, 119, 115, 46, 70, 110, 69, 120, 97, 99, 116, 69, 120, 116, 114, 97, 99, 116]
theorem head : Try.prog.initOrder.toList = HC.map Char.ofNat := by
  have h : Try.prog.initOrder = String.ofList (HC.map Char.ofNat) := by kernel_rfl
  rw [h, String.toList_ofList]
def WL : List (List Nat) := [[97, 116], [108, 111, 111, 112, 46, 101, 120, 97, 109, 112, 108, 101, 47, 103, 48, 48, 54, 57, 52, 47, 108, 97, 119, 115, 46, 70, 110, 69, 120, 97, 99, 116, 77, 97, 116, 99, 104, 65, 116], [108, 111, 111, 112, 46, 101, 120, 97, 109, 112, 108, 101, 47, 103, 48, 48, 54, 57, 52, 47, 108, 97, 119, 115, 46, 70, 110, 69, 120, 97, 99, 116, 65, 108, 108, 77, 97, 116, 99, 104, 101, 115], [108, 111, 111, 112, 46, 101, 120, 97, 109, 112, 108, 101, 47, 103, 48, 48, 54, 57, 52, 47, 108, 97, 119, 115, 46, 70, 110, 69, 120, 97, 99, 116, 71, 111, 111, 100, 71, 114, 97, 112, 104], [108, 111, 111, 112, 46, 101, 120, 97, 109, 112, 108, 101, 47, 103, 48, 48, 54, 57, 52, 47, 108, 97, 119, 115, 46, 70, 110, 69, 120, 97, 99, 116, 68, 114, 111, 112, 76, 105, 110, 107], [108, 111, 111, 112, 46, 101, 120, 97, 109, 112, 108, 101, 47, 103, 48, 48, 54, 57, 52, 47, 108, 97, 119, 115, 46, 70, 110, 69, 120, 97, 99, 116, 67, 108, 97, 115, 115, 101, 115, 73, 110], [108, 111, 111, 112, 46, 101, 120, 97, 109, 112, 108, 101, 47, 103, 48, 48, 54, 57, 52, 47, 108, 97, 119, 115, 46, 70, 110, 69, 120, 97, 99, 116, 78, 111, 100, 101, 115, 73, 110], [108, 111, 111, 112, 46, 101, 120, 97, 109, 112, 108, 101, 47, 103, 48, 48, 54, 57, 52, 47, 108, 97, 119, 115, 46, 70, 110, 69, 120, 97, 99, 116, 67, 108, 111, 115, 101, 100], [108, 111, 111, 112, 46, 101, 120, 97, 109, 112, 108, 101, 47, 103, 48, 48, 54, 57, 52, 47, 108, 97, 119, 115, 46, 70, 110, 69, 120, 97, 99, 116, 67, 104, 111, 115, 101, 110, 73, 110], [108, 111, 111, 112, 46, 101, 120, 97, 109, 112, 108, 101, 47, 103, 48, 48, 54, 57, 52, 47, 108, 97, 119, 115, 46, 70, 110, 69, 120, 97, 99, 116, 66, 101, 115, 116, 67, 111, 115, 116, 115], [108, 111, 111, 112, 46, 101, 120, 97, 109, 112, 108, 101, 47, 103, 48, 48, 54, 57, 52, 47, 108, 97, 119, 115, 46, 70, 110, 69, 120, 97, 99, 116, 73, 115, 77, 97, 116, 99, 104], [108, 111, 111, 112, 46, 101, 120, 97, 109, 112, 108, 101, 47, 103, 48, 48, 54, 57, 52, 47, 108, 97, 119, 115, 46, 70, 110, 69, 120, 97, 99, 116, 70, 105, 110, 100, 84, 101, 114, 109], [108, 111, 111, 112, 46, 101, 120, 97, 109, 112, 108, 101, 47, 103, 48, 48, 54, 57, 52, 47, 108, 97, 119, 115, 46, 70, 110, 69, 120, 97, 99, 116, 72, 111, 108, 100, 115, 84, 101, 114, 109], [108, 111, 111, 112, 46, 101, 120, 97, 109, 112, 108, 101, 47, 103, 48, 48, 54, 57, 52, 47, 108, 97, 119, 115, 46, 70, 110, 69, 120, 97, 99, 116, 77, 101, 114, 103, 101], [108, 111, 111, 112, 46, 101, 120, 97, 109, 112, 108, 101, 47, 103, 48, 48, 54, 57, 52, 47, 108, 97, 119, 115, 46, 70, 110, 69, 120, 97, 99, 116, 69, 120, 116, 114, 97, 99, 116]]
theorem words : behindMainWord (wordsSigns Try.prog.initOrder.toList) = "cut".toList :: WL.map (fun l => l.map Char.ofNat) := by rw [head]; kernel_rfl
def RL : List Nat := [74, 111, 51, 95, 37, 54, 113, 53, 152, 98, 39, 96, 140, 97, 38, 99, 114, 100, 102, 101, 40, 46, 117, 56, 153, 103, 41, 47, 57, 104, 42, 48, 105, 106, 43, 6]
theorem fact0 : (Rows.fnExactDropLinkRow.wf (OpenSpec.ofChange Rows.fnExactDropLinkSpec)) = true := by kernel_rfl
theorem fact1 : (laidOutB Try.prog) = true := by kernel_rfl
theorem fact2 : (mapsRowed Try.prog) = true := by kernel_rfl
theorem fact3 : (Try.f6.params.all (Try.prog.readableRec ·)) = true := by kernel_rfl
theorem fact4 : (namedTie Try.prog Rows.fnExactDropLinkRow.named Rows.fnExactDropLinkSpec.vars) = true := by kernel_rfl
theorem fact5 : ((Rows.fnExactDropLinkRow.stops == [])) = true := by kernel_rfl
theorem fact6 : ((Try.prog.stops == [])) = true := by kernel_rfl
theorem fact7 : ((Rows.fnExactDropLinkRow.knobs == [])) = true := by kernel_rfl
theorem fact8 : ((Try.prog.stopKnobs == [])) = true := by kernel_rfl
theorem fact9 : ((Rows.fnExactDropLinkRow.inPlace == Try.prog.inPlace 6)) = true := by unfold Program.inPlace; rw [closed]; kernel_rfl
theorem fact10 : ((Rows.fnExactDropLinkRow.unfollowed == Try.prog.unfollowed 6)) = true := by unfold Program.unfollowed; rw [closed]; kernel_rfl
theorem fact11 : ((Rows.fnExactDropLinkRow.recurses == Try.prog.recurses 6)) = true := by rw [Close.recurses_false Try.prog 6 T CL RL tabOK closed (by unfold Program.unfollowed; rw [closed]; kernel_rfl) (by kernel_rfl)]; rfl
theorem fact12 : ((Rows.fnExactDropLinkRow.named == Try.prog.varsNamed 6)) = true := by unfold Program.varsNamed; rw [closed]; kernel_rfl
theorem fact13 : ((Rows.fnExactDropLinkRow.maps == (Try.f6.params.toList ++ Rows.fnExactDropLinkSpec.plain.varTypes Try.prog).any (Try.prog.mapsRec ·))) = true := by kernel_rfl
theorem fact14 : ((Rows.fnExactDropLinkRow.ifaces == (Try.f6.params.toList ++ Rows.fnExactDropLinkSpec.plain.varTypes Try.prog).any (Try.prog.ifacesRec ·))) = true := by kernel_rfl
theorem fact15 : ((Rows.fnExactDropLinkRow.mapsOut == Try.prog.mapsAmong Try.f6.resultTypes.toList)) = true := by kernel_rfl
theorem fact16 : ((Rows.fnExactDropLinkRow.loops == (Try.f6.params.toList ++ Rows.fnExactDropLinkSpec.plain.varTypes Try.prog).any (Try.prog.loopsFrom ·))) = true := by kernel_rfl
theorem fact17 : ((Rows.fnExactDropLinkRow.wideKeys == (Try.f6.params.toList ++ Rows.fnExactDropLinkSpec.plain.varTypes Try.prog ++ Try.f6.resultTypes.toList).any (Try.prog.wideKeysFrom ·))) = true := by kernel_rfl
theorem fact18 : (Rows.fnExactDropLinkSpec.vars.all (Try.prog.varReadable ·)) = true := by kernel_rfl
theorem fact19 : (Try.f6.resultTypes.all (fun t => Try.prog.readableRec t && decide (t < Try.prog.types.size))) = true := by kernel_rfl
theorem fact20 : ((Rows.fnExactDropLinkRow.ifacesOut == Try.f6.resultTypes.toList.any (Try.prog.ifacesRec ·))) = true := by kernel_rfl
theorem fact21 : ((Rows.fnExactDropLinkRow.loopsOut == Try.f6.resultTypes.toList.any (Try.prog.loopsFrom ·))) = true := by kernel_rfl
theorem fact22 : ((Rows.fnExactDropLinkRow.plainKeys == Try.prog.plainKeys)) = true := by kernel_rfl
theorem fact23 : (Rows.fnExactDropLinkRow.shortTexts.isNone) = true := by kernel_rfl
theorem fact24 : (Try.prog.stopsHeard) = true := by kernel_rfl
theorem fact25 : (Try.prog.mayEnter) = true := Close.may_enter Try.prog _ words (by kernel_rfl) (by kernel_rfl) (by kernel_rfl)
theorem fact26 : ((Rows.fnExactDropLinkRow.lifted == Try.prog.liftsFinal)) = true := by rw [Close.lifts_final Try.prog _ words]; rfl
theorem fact27 : ((Try.prog.make == some Rows.fnExactDropLinkRow.make)) = true := by rw [Close.make_cut Try.prog _ words]; rfl
theorem fact28 : ((Rows.fnExactDropLinkRow.kinds == (if Rows.fnExactDropLinkRow.domain.isEmpty then [] else Try.f6.params.toList.map fun t => match Try.prog.underlying t with | some (.int k) => some k | _ => none))) = true := by kernel_rfl
theorem fact29 : ((Rows.fnExactDropLinkRow.pinned == Rows.fnExactDropLinkRow.pinnedBy)) = true := by kernel_rfl
theorem fact30 : ((Rows.fnExactDropLinkRow.veiled == (Try.f6.params.toList ++ Rows.fnExactDropLinkSpec.plain.varTypes Try.prog ++ Try.f6.resultTypes.toList).any (Try.prog.veiledRec ·))) = true := by kernel_rfl
theorem fact31 : (Rows.fnExactDropLinkRow.veiledFits Try.prog Try.f6.params.toList (Try.f6.params.toList ++ Rows.fnExactDropLinkSpec.plain.varTypes Try.prog ++ Try.f6.resultTypes.toList)) = true := by kernel_rfl
set_option maxRecDepth 100000 in
theorem facts : joinedFacts Try.prog 6 Try.f6 Rows.fnExactDropLinkSpec Rows.fnExactDropLinkRow = true := by
  unfold joinedFacts
  simp only [Bool.and_eq_true]
  exact ⟨⟨⟨⟨⟨⟨⟨⟨⟨⟨⟨⟨⟨⟨⟨⟨⟨⟨⟨⟨⟨⟨⟨⟨⟨⟨⟨⟨⟨⟨⟨fact0, fact1⟩, fact2⟩, fact3⟩, fact4⟩, fact5⟩, fact6⟩, fact7⟩, fact8⟩, fact9⟩, fact10⟩, fact11⟩, fact12⟩, fact13⟩, fact14⟩, fact15⟩, fact16⟩, fact17⟩, fact18⟩, fact19⟩, fact20⟩, fact21⟩, fact22⟩, fact23⟩, fact24⟩, fact25⟩, fact26⟩, fact27⟩, fact28⟩, fact29⟩, fact30⟩, fact31⟩
theorem named : Try.prog.funcNamed Rows.fnExactDropLinkRow.func = some 6 := by kernel_rfl
theorem inst : Try.f6.isInstance Try.prog Rows.fnExactDropLinkRow.origin Rows.fnExactDropLinkRow.targs := of_decide_eq_true (by kernel_rfl)
theorem wrap : Try.f6.isWrapper Try.prog Rows.fnExactDropLinkRow.wrapper Rows.fnExactDropLinkRow.mainSum := by unfold Func.isWrapper; first | (rw [if_pos (by decide +kernel)]; kernel_rfl) | (rw [if_neg (by decide +kernel)]; exact ⟨rfl, rfl⟩)
theorem over : Rows.fnExactDropLinkRow.holds Try.pinned (OpenSpec.ofChange Rows.fnExactDropLinkSpec) :=
  OpenClaim.holds_of_wide 6 Try.f6 rfl rfl rfl rfl rfl rfl rfl ⟨rfl, rfl, rfl, rfl, rfl⟩ rfl rfl rfl rfl rfl named Try.func6 facts inst wrap
    (fun os started H enc _ => lifted os started H enc)
theorem proved : Rows.FnExactDropLinkSaid := over
#print axioms proved
end Go.Proofs.Ytakblgcheakbnaa.fnExactDropLink
namespace Go.Proofs.Ytakblgcheakbnaa
/-- The row, under a short name, for the claim. -/
theorem fnExactDropLink_holds : Rows.FnExactDropLinkSaid := fnExactDropLink.proved
end Go.Proofs.Ytakblgcheakbnaa
