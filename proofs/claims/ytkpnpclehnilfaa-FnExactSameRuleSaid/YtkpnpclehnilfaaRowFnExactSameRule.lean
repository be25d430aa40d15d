/- The row of FnExactSameRule, for every input; its conditions are those of the given row alone. -/
import Derived.Test.YtkpnpclehnilfaaRows
import Derived.Test.YtkpnpclehnilfaaPFnExactSameRulex8
import Derived.Test.YtkpnpclehnilfaaRdFnExactSameRule
import Derived.Test.YtkpnpclehnilfaaPureFnExactSameRule
import Derived.WalkKit
import Derived.Test.YtkpnpclehnilfaaClose
import Derived.ProofKit
import Derived.OpenShut
import Derived.ShutString
import Derived.ChangeOld
import Derived.Below
import Derived.SizedLaws
namespace Go.Proofs.Ytkpnpclehnilfaa.fnExactSameRule
open Go.ChangeShapes Go.WideShapes Go.ChangeAt Go.RowKit
open Go.ChangeMaps (open_string shut_string)
set_option linter.unusedVariables false
theorem own : ownKnob Try.prog.godebug = none := by kernel_rfl
theorem laidOut : laidOutB Try.prog = true := by kernel_rfl
set_option maxRecDepth 100000 in
theorem lifted (os : Os) (started : os.Started) (H : Type) (enc : TypeId × Value → H) :
    ReturnsInHanded {} Try.checked os 3 .any (Rows.fnExactSameRuleSpec.pre6 enc Try.prog Try.f3 Rows.fnExactSameRuleRow.domain false) (Rows.fnExactSameRuleSpec.post enc Try.prog Try.f3 false true false false) := by
  refine returnsInHanded_of_change_sized (C := Try.checked) own started (by kernel_rfl) Try.func3
    (ChangeSpec.witness6 (enc := enc) (C := Try.checked) false ⟨#[], #[.agg #[.slice none 0 0, .slice none 0 0], .agg #[.slice none 0 0, .slice none 0 0]], []⟩ 8 (by kernel_rfl) (by kernel_rfl) (by kernel_rfl) (by kernel_rfl)) ?_
  intro W base args ds gs before hval0 hW hcnd hsz0 _
  have hval : ∀ (j : Nat) t v, Try.f3.params[j]? = some t → args[j]? = some v → Value.okWide Try.prog W .any base t v := hval0
  have hW' := hW
  obtain ⟨p, q, hA0, hV, rfl, hfz, hnd⟩ := hW
  have hA : DataW.TrodAll enc Try.prog W 0 (fun _ => true) true Try.f3.params.toList args.toList ds p := hA0
  rw [Try.params3] at hA hval
  obtain ⟨v0, vs0, d0, ds0, p0, q0, hargs, rfl, rfl, h0, r0⟩ := trodAll_cons hA
  obtain ⟨v1, vs1, d1, ds1, p1, q1, rfl, rfl, rfl, h1, r1⟩ := trodAll_cons r0
  obtain ⟨rfl, rfl, rfl⟩ := trodAll_nil r1
  obtain rfl : args = #[v0, v1] := by cases args; simp_all
  obtain ⟨rfl, rfl⟩ := trodVars_none hV
  have k0 := h0
  have lt0 : ∀ x ∈ p0, x.block < W.heap.size := by obtain ⟨m, hm⟩ := k0; exact DataW.trod_lt m _ _ _ hm
  obtain ⟨⟨cl0⟩, rfl, _⟩ := okWide_struct Try.underlying24 (hval 0 24 v0 rfl rfl)
  obtain ⟨x0, kk0, ok0⟩ := Open.of_trod RdFnExactSameRule.reads24 h0
  obtain ⟨A0_0, c0_0, A0_1, c0_1, e0, l0_0, g0_0, l0_1, g0_1⟩ := PFnExactSameRule.k24_open kk0
  obtain rfl : cl0 = _ := e0
  have k1 := h1
  have lt1 : ∀ x ∈ p1, x.block < W.heap.size := by obtain ⟨m, hm⟩ := k1; exact DataW.trod_lt m _ _ _ hm
  obtain ⟨⟨cl1⟩, rfl, _⟩ := okWide_struct Try.underlying24 (hval 1 24 v1 rfl rfl)
  obtain ⟨x1, kk1, ok1⟩ := Open.of_trod RdFnExactSameRule.reads24 h1
  obtain ⟨A1_0, c1_0, A1_1, c1_1, e1, l1_0, g1_0, l1_1, g1_1⟩ := PFnExactSameRule.k24_open kk1
  obtain rfl : cl1 = _ := e1
  clear hA0 hval0 hsz0
  obtain ⟨k, hp⟩ := Pure.FnExactSameRule x0 x1 ok0 g0_0.2.1 g0_1.2.1 ok1 g1_0.2.1 g1_1.2.1
  refine (PFnExactSameRule.laws_FnExactSameRule.calls k _ _ x0.f0 _ _ x0.f1 _ _ x1.f0 _ _ x1.f1 true W g0_0 l0_0 g0_1 l0_1 g1_0 l1_0 g1_1 l1_1 hp).mono fun e W' ⟨he, bel⟩ => ?_
  subst he
  exact ⟨_, rfl, _, _, _, [], _, [], hW', trodAll_mk1 (shut_bool Try.underlying4 _), (trodAll_cons_mk (Below.trod laidOut (by kernel_rfl) (of_decide_eq_true (by kernel_rfl)) k0 bel lt0) (trodAll_cons_mk (Below.trod laidOut (by kernel_rfl) (of_decide_eq_true (by kernel_rfl)) k1 bel lt1) trodAll_mk0)), rfl, bel.frame _, fun h => by cases h⟩
def T : List (Nat × List Nat) := [(3, [4, 4, 6, 6, 5, 6, 6, 7, 6, 8, 6, 8]), (4, [9, 9]), (9, []), (6, [12, 12]), (12, [20]), (20, []), (5, [10, 10, 11]), (10, [16, 16]), (16, [27]), (27, [35, 36]), (35, []), (36, [35]), (11, [17, 19, 18, 19, 18]), (17, [28, 29, 17]), (28, []), (29, []), (19, [30]), (30, []), (18, []), (7, [13, 13, 14]), (13, [21, 21]), (21, [31]), (31, [37]), (37, [39]), (39, [40, 41, 42, 42, 43]), (40, []), (41, [44]), (44, [40]), (42, []), (43, []), (14, [23, 22]), (23, [25, 24, 25, 24]), (25, [34]), (34, []), (24, []), (22, [32, 33, 22]), (32, [38]), (38, []), (33, []), (8, [15, 15]), (15, [26]), (26, [])]
def CL : List Nat := [3, 4, 9, 6, 12, 20, 5, 10, 16, 27, 35, 36, 11, 17, 28, 29, 19, 30, 18, 7, 13, 21, 31, 37, 39, 40, 41, 44, 42, 43, 14, 23, 25, 34, 24, 22, 32, 38, 33, 8, 15, 26]
def SL : List Nat := [3, 4, 5, 6, 7, 8, 9, 10, 11, 12, 13, 14, 15, 16, 17, 18, 19, 20, 21, 22, 23, 24, 25, 26, 27, 28, 29, 30, 31, 32, 33, 34, 35, 36, 37, 38, 39, 40, 41, 42, 43, 44]
theorem tab3 : (Close.tab T 3 == Close.leads Try.prog 3) = true := by kernel_rfl
theorem tab4 : (Close.tab T 4 == Close.leads Try.prog 4) = true := by kernel_rfl
theorem tab9 : (Close.tab T 9 == Close.leads Try.prog 9) = true := by kernel_rfl
theorem tab6 : (Close.tab T 6 == Close.leads Try.prog 6) = true := by kernel_rfl
theorem tab12 : (Close.tab T 12 == Close.leads Try.prog 12) = true := by kernel_rfl
theorem tab20 : (Close.tab T 20 == Close.leads Try.prog 20) = true := by kernel_rfl
theorem tab5 : (Close.tab T 5 == Close.leads Try.prog 5) = true := by kernel_rfl
theorem tab10 : (Close.tab T 10 == Close.leads Try.prog 10) = true := by kernel_rfl
theorem tab16 : (Close.tab T 16 == Close.leads Try.prog 16) = true := by kernel_rfl
theorem tab27 : (Close.tab T 27 == Close.leads Try.prog 27) = true := by kernel_rfl
theorem tab35 : (Close.tab T 35 == Close.leads Try.prog 35) = true := by kernel_rfl
theorem tab36 : (Close.tab T 36 == Close.leads Try.prog 36) = true := by kernel_rfl
theorem tab11 : (Close.tab T 11 == Close.leads Try.prog 11) = true := by kernel_rfl
theorem tab17 : (Close.tab T 17 == Close.leads Try.prog 17) = true := by kernel_rfl
theorem tab28 : (Close.tab T 28 == Close.leads Try.prog 28) = true := by kernel_rfl
theorem tab29 : (Close.tab T 29 == Close.leads Try.prog 29) = true := by kernel_rfl
theorem tab19 : (Close.tab T 19 == Close.leads Try.prog 19) = true := by kernel_rfl
theorem tab30 : (Close.tab T 30 == Close.leads Try.prog 30) = true := by kernel_rfl
theorem tab18 : (Close.tab T 18 == Close.leads Try.prog 18) = true := by kernel_rfl
theorem tab7 : (Close.tab T 7 == Close.leads Try.prog 7) = true := by kernel_rfl
theorem tab13 : (Close.tab T 13 == Close.leads Try.prog 13) = true := by kernel_rfl
theorem tab21 : (Close.tab T 21 == Close.leads Try.prog 21) = true := by kernel_rfl
theorem tab31 : (Close.tab T 31 == Close.leads Try.prog 31) = true := by kernel_rfl
theorem tab37 : (Close.tab T 37 == Close.leads Try.prog 37) = true := by kernel_rfl
theorem tab39 : (Close.tab T 39 == Close.leads Try.prog 39) = true := by kernel_rfl
theorem tab40 : (Close.tab T 40 == Close.leads Try.prog 40) = true := by kernel_rfl
theorem tab41 : (Close.tab T 41 == Close.leads Try.prog 41) = true := by kernel_rfl
theorem tab44 : (Close.tab T 44 == Close.leads Try.prog 44) = true := by kernel_rfl
theorem tab42 : (Close.tab T 42 == Close.leads Try.prog 42) = true := by kernel_rfl
theorem tab43 : (Close.tab T 43 == Close.leads Try.prog 43) = true := by kernel_rfl
theorem tab14 : (Close.tab T 14 == Close.leads Try.prog 14) = true := by kernel_rfl
theorem tab23 : (Close.tab T 23 == Close.leads Try.prog 23) = true := by kernel_rfl
theorem tab25 : (Close.tab T 25 == Close.leads Try.prog 25) = true := by kernel_rfl
theorem tab34 : (Close.tab T 34 == Close.leads Try.prog 34) = true := by kernel_rfl
theorem tab24 : (Close.tab T 24 == Close.leads Try.prog 24) = true := by kernel_rfl
theorem tab22 : (Close.tab T 22 == Close.leads Try.prog 22) = true := by kernel_rfl
theorem tab32 : (Close.tab T 32 == Close.leads Try.prog 32) = true := by kernel_rfl
theorem tab38 : (Close.tab T 38 == Close.leads Try.prog 38) = true := by kernel_rfl
theorem tab33 : (Close.tab T 33 == Close.leads Try.prog 33) = true := by kernel_rfl
theorem tab8 : (Close.tab T 8 == Close.leads Try.prog 8) = true := by kernel_rfl
theorem tab15 : (Close.tab T 15 == Close.leads Try.prog 15) = true := by kernel_rfl
theorem tab26 : (Close.tab T 26 == Close.leads Try.prog 26) = true := by kernel_rfl
theorem tabOK : (CL.all fun g => Close.tab T g == Close.leads Try.prog g) = true := by
  unfold CL
  simp only [List.all_cons, List.all_nil, Bool.and_true, Bool.and_eq_true]
  exact ⟨tab3, tab4, tab9, tab6, tab12, tab20, tab5, tab10, tab16, tab27, tab35, tab36, tab11, tab17, tab28, tab29, tab19, tab30, tab18, tab7, tab13, tab21, tab31, tab37, tab39, tab40, tab41, tab44, tab42, tab43, tab14, tab23, tab25, tab34, tab24, tab22, tab32, tab38, tab33, tab8, tab15, tab26⟩
theorem closed : Try.prog.closure 3 = CL := Close.closure_eq Try.prog 3 T CL SL 65 tabOK (by kernel_rfl) (by decide) (by kernel_rfl) (by decide)
def HC : List Nat := [104, 97, 114, 110, 101, 115, 115, 32, 98, 48, 49, 102, 101, 98, 97, 53, 102, 97, 48, 52, 101, 49, 55, 52, 48, 56, 53, 97, 98, 55, 50, 53, 102, 53, 51, 51, 97, 100, 57, 56, 55, 50, 55, 53, 53, 99, 51, 53, 98, 50, 100, 99, 54, 50, 50, 99, 48, 102, 49, 52, 54, 49, 53, 102, 53, 50, 102, 51, 57, 100, 101, 52, 32, 99, 117, 116, 32, 97, 116, 32, 108, 111, 111, 112, 46, 101, 120, 97, 109, 112, 108, 101, 47, 103, 48, 48, 54, 57, 52, 47, 108, 97, 119, 115, 46, 70, 110, 69, 120, 97, 99, 116, 83, 97, 109, 101, 82, 117, 108, 101]
theorem head : Try.prog.initOrder.toList = HC.map Char.ofNat := by
  have h : Try.prog.initOrder = String.ofList (HC.map Char.ofNat) := by kernel_rfl
  rw [h, String.toList_ofList]
def WL : List (List Nat) := [[97, 116], [108, 111, 111, 112, 46, 101, 120, 97, 109, 112, 108, 101, 47, 103, 48, 48, 54, 57, 52, 47, 108, 97, 119, 115, 46, 70, 110, 69, 120, 97, 99, 116, 83, 97, 109, 101, 82, 117, 108, 101]]
theorem words : behindMainWord (wordsSigns Try.prog.initOrder.toList) = "cut".toList :: WL.map (fun l => l.map Char.ofNat) := by rw [head]; kernel_rfl
theorem fact0 : (Rows.fnExactSameRuleRow.wf (OpenSpec.ofChange Rows.fnExactSameRuleSpec)) = true := by kernel_rfl
theorem fact1 : (laidOutB Try.prog) = true := by kernel_rfl
theorem fact2 : (mapsRowed Try.prog) = true := by kernel_rfl
theorem fact3 : (Try.f3.params.all (Try.prog.readableRec ·)) = true := by kernel_rfl
theorem fact4 : (namedTie Try.prog Rows.fnExactSameRuleRow.named Rows.fnExactSameRuleSpec.vars) = true := by kernel_rfl
theorem fact5 : ((Rows.fnExactSameRuleRow.stops == [])) = true := by kernel_rfl
theorem fact6 : ((Try.prog.stops == [])) = true := by kernel_rfl
theorem fact7 : ((Rows.fnExactSameRuleRow.knobs == [])) = true := by kernel_rfl
theorem fact8 : ((Try.prog.stopKnobs == [])) = true := by kernel_rfl
theorem fact9 : ((Rows.fnExactSameRuleRow.inPlace == Try.prog.inPlace 3)) = true := by unfold Program.inPlace; rw [closed]; kernel_rfl
theorem fact10 : ((Rows.fnExactSameRuleRow.unfollowed == Try.prog.unfollowed 3)) = true := by unfold Program.unfollowed; rw [closed]; kernel_rfl
theorem fact11 : ((Rows.fnExactSameRuleRow.recurses == Try.prog.recurses 3)) = true := by rw [Close.recurses_true Try.prog 3 (by unfold Program.unfollowed; rw [closed]; kernel_rfl)]; rfl
theorem fact12 : ((Rows.fnExactSameRuleRow.named == Try.prog.varsNamed 3)) = true := by unfold Program.varsNamed; rw [closed]; kernel_rfl
theorem fact13 : ((Rows.fnExactSameRuleRow.maps == (Try.f3.params.toList ++ Rows.fnExactSameRuleSpec.plain.varTypes Try.prog).any (Try.prog.mapsRec ·))) = true := by kernel_rfl
theorem fact14 : ((Rows.fnExactSameRuleRow.ifaces == (Try.f3.params.toList ++ Rows.fnExactSameRuleSpec.plain.varTypes Try.prog).any (Try.prog.ifacesRec ·))) = true := by kernel_rfl
theorem fact15 : ((Rows.fnExactSameRuleRow.mapsOut == Try.prog.mapsAmong Try.f3.resultTypes.toList)) = true := by kernel_rfl
theorem fact16 : ((Rows.fnExactSameRuleRow.loops == (Try.f3.params.toList ++ Rows.fnExactSameRuleSpec.plain.varTypes Try.prog).any (Try.prog.loopsFrom ·))) = true := by kernel_rfl
theorem fact17 : ((Rows.fnExactSameRuleRow.wideKeys == (Try.f3.params.toList ++ Rows.fnExactSameRuleSpec.plain.varTypes Try.prog ++ Try.f3.resultTypes.toList).any (Try.prog.wideKeysFrom ·))) = true := by kernel_rfl
theorem fact18 : (Rows.fnExactSameRuleSpec.vars.all (Try.prog.varReadable ·)) = true := by kernel_rfl
theorem fact19 : (Try.f3.resultTypes.all (fun t => Try.prog.readableRec t && decide (t < Try.prog.types.size))) = true := by kernel_rfl
theorem fact20 : ((Rows.fnExactSameRuleRow.ifacesOut == Try.f3.resultTypes.toList.any (Try.prog.ifacesRec ·))) = true := by kernel_rfl
theorem fact21 : ((Rows.fnExactSameRuleRow.loopsOut == Try.f3.resultTypes.toList.any (Try.prog.loopsFrom ·))) = true := by kernel_rfl
theorem fact22 : ((Rows.fnExactSameRuleRow.plainKeys == Try.prog.plainKeys)) = true := by kernel_rfl
theorem fact23 : (Rows.fnExactSameRuleRow.shortTexts.isNone) = true := by kernel_rfl
theorem fact24 : (Try.prog.stopsHeard) = true := by kernel_rfl
theorem fact25 : (Try.prog.mayEnter) = true := Close.may_enter Try.prog _ words (by kernel_rfl) (by kernel_rfl) (by kernel_rfl)
theorem fact26 : ((Rows.fnExactSameRuleRow.lifted == Try.prog.liftsFinal)) = true := by rw [Close.lifts_final Try.prog _ words]; rfl
theorem fact27 : ((Try.prog.make == some Rows.fnExactSameRuleRow.make)) = true := by rw [Close.make_cut Try.prog _ words]; rfl
theorem fact28 : ((Rows.fnExactSameRuleRow.kinds == (if Rows.fnExactSameRuleRow.domain.isEmpty then [] else Try.f3.params.toList.map fun t => match Try.prog.underlying t with | some (.int k) => some k | _ => none))) = true := by kernel_rfl
theorem fact29 : ((Rows.fnExactSameRuleRow.pinned == Rows.fnExactSameRuleRow.pinnedBy)) = true := by kernel_rfl
theorem fact30 : ((Rows.fnExactSameRuleRow.veiled == (Try.f3.params.toList ++ Rows.fnExactSameRuleSpec.plain.varTypes Try.prog ++ Try.f3.resultTypes.toList).any (Try.prog.veiledRec ·))) = true := by kernel_rfl
theorem fact31 : (Rows.fnExactSameRuleRow.veiledFits Try.prog Try.f3.params.toList (Try.f3.params.toList ++ Rows.fnExactSameRuleSpec.plain.varTypes Try.prog ++ Try.f3.resultTypes.toList)) = true := by kernel_rfl
set_option maxRecDepth 100000 in
theorem facts : joinedFacts Try.prog 3 Try.f3 Rows.fnExactSameRuleSpec Rows.fnExactSameRuleRow = true := by
  unfold joinedFacts
  simp only [Bool.and_eq_true]
  exact ⟨⟨⟨⟨⟨⟨⟨⟨⟨⟨⟨⟨⟨⟨⟨⟨⟨⟨⟨⟨⟨⟨⟨⟨⟨⟨⟨⟨⟨⟨⟨fact0, fact1⟩, fact2⟩, fact3⟩, fact4⟩, fact5⟩, fact6⟩, fact7⟩, fact8⟩, fact9⟩, fact10⟩, fact11⟩, fact12⟩, fact13⟩, fact14⟩, fact15⟩, fact16⟩, fact17⟩, fact18⟩, fact19⟩, fact20⟩, fact21⟩, fact22⟩, fact23⟩, fact24⟩, fact25⟩, fact26⟩, fact27⟩, fact28⟩, fact29⟩, fact30⟩, fact31⟩
theorem named : Try.prog.funcNamed Rows.fnExactSameRuleRow.func = some 3 := by kernel_rfl
theorem inst : Try.f3.isInstance Try.prog Rows.fnExactSameRuleRow.origin Rows.fnExactSameRuleRow.targs := of_decide_eq_true (by kernel_rfl)
theorem wrap : Try.f3.isWrapper Try.prog Rows.fnExactSameRuleRow.wrapper Rows.fnExactSameRuleRow.mainSum := by unfold Func.isWrapper; first | (rw [if_pos (by decide +kernel)]; kernel_rfl) | (rw [if_neg (by decide +kernel)]; exact ⟨rfl, rfl⟩)
theorem over : Rows.fnExactSameRuleRow.holds Try.pinned (OpenSpec.ofChange Rows.fnExactSameRuleSpec) :=
  OpenClaim.holds_of_wide 3 Try.f3 rfl rfl rfl rfl rfl rfl rfl ⟨rfl, rfl, rfl, rfl, rfl⟩ rfl rfl rfl rfl rfl named Try.func3 facts inst wrap
    (fun os started H enc _ => lifted os started H enc)
theorem proved : Rows.FnExactSameRuleSaid := over
#print axioms proved
end Go.Proofs.Ytkpnpclehnilfaa.fnExactSameRule
namespace Go.Proofs.Ytkpnpclehnilfaa
/-- The row, under a short name, for the claim. -/
theorem fnExactSameRule_holds : Rows.FnExactSameRuleSaid := fnExactSameRule.proved
end Go.Proofs.Ytkpnpclehnilfaa
