/- The row of FnExactEvalPoly, for every input; its conditions are those of the given row alone. -/
import Derived.Test.YtlneknaiimmfmaaRows
import Derived.Test.YtlneknaiimmfmaaPFnExactEvalPolyx6
import Derived.Test.YtlneknaiimmfmaaRdFnExactEvalPoly
import Derived.Test.YtlneknaiimmfmaaPureFnExactEvalPoly
import Derived.WalkKit
import Derived.Test.YtlneknaiimmfmaaClose
import Derived.ProofKit
import Derived.OpenShut
import Derived.ShutString
import Derived.ChangeOld
import Derived.Below
import Derived.SizedLaws
namespace Go.Proofs.Ytlneknaiimmfmaa.fnExactEvalPoly
open Go.ChangeShapes Go.WideShapes Go.ChangeAt Go.RowKit
open Go.ChangeMaps (open_string shut_string)
set_option linter.unusedVariables false
theorem own : ownKnob Try.prog.godebug = none := by kernel_rfl
theorem laidOut : laidOutB Try.prog = true := by kernel_rfl
set_option maxRecDepth 100000 in
theorem lifted (os : Os) (started : os.Started) (H : Type) (enc : TypeId × Value → H) :
    ReturnsInHanded {} Try.checked os 12 .any (Rows.fnExactEvalPolySpec.pre6 enc Try.prog Try.f12 Rows.fnExactEvalPolyRow.domain false) (Rows.fnExactEvalPolySpec.post enc Try.prog Try.f12 false true false false) := by
  refine returnsInHanded_of_change_sized (C := Try.checked) own started (by kernel_rfl) Try.func12
    (ChangeSpec.witness6 (enc := enc) (C := Try.checked) false ⟨#[], #[.slice none 0 0, .slice none 0 0], []⟩ 8 (by kernel_rfl) (by kernel_rfl) (by kernel_rfl) (by kernel_rfl)) ?_
  intro W base args ds gs before hval0 hW hcnd hsz0 _
  have hval : ∀ (j : Nat) t v, Try.f12.params[j]? = some t → args[j]? = some v → Value.okWide Try.prog W .any base t v := hval0
  have hW' := hW
  obtain ⟨p, q, hA0, hV, rfl, hfz, hnd⟩ := hW
  have hA : DataW.TrodAll enc Try.prog W 0 (fun _ => true) true Try.f12.params.toList args.toList ds p := hA0
  rw [Try.params12] at hA hval
  obtain ⟨v0, vs0, d0, ds0, p0, q0, hargs, rfl, rfl, h0, r0⟩ := trodAll_cons hA
  obtain ⟨v1, vs1, d1, ds1, p1, q1, rfl, rfl, rfl, h1, r1⟩ := trodAll_cons r0
  obtain ⟨rfl, rfl, rfl⟩ := trodAll_nil r1
  obtain rfl : args = #[v0, v1] := by cases args; simp_all
  obtain ⟨rfl, rfl⟩ := trodVars_none hV
  have k0 := h0
  have lt0 : ∀ x ∈ p0, x.block < W.heap.size := by obtain ⟨m, hm⟩ := k0; exact DataW.trod_lt m _ _ _ hm
  obtain ⟨a0, len0, cap0, rfl⟩ := okWide_slice Try.underlying42 (hval 0 42 v0 rfl rfl)
  obtain ⟨l0, kk0, ok0⟩ := Open.of_trod (Open.reads_slice Try.underlying42 (by kernel_rfl) RdFnExactEvalPoly.reads100) h0
  obtain ⟨A0, c0, e0, n0, g0⟩ := Open.one_slice (c := .slice a0 len0 cap0) kk0
  cases e0
  have k1 := h1
  have lt1 : ∀ x ∈ p1, x.block < W.heap.size := by obtain ⟨m, hm⟩ := k1; exact DataW.trod_lt m _ _ _ hm
  obtain ⟨a1, len1, cap1, rfl⟩ := okWide_slice Try.underlying60 (hval 1 60 v1 rfl rfl)
  obtain ⟨l1, kk1, ok1⟩ := Open.of_trod (Open.reads_slice Try.underlying60 (by kernel_rfl) (Open.reads_int Try.underlying2)) h1
  obtain ⟨A1, c1, e1, n1, g1⟩ := Open.one_slice (c := .slice a1 len1 cap1) kk1
  cases e1
  clear hA0 hval0 hsz0
  obtain ⟨k, hp⟩ := Pure.FnExactEvalPoly l0 l1 g0.2.1 ok0 g1.2.1 ok1
  refine (PFnExactEvalPoly.laws_FnExactEvalPoly.calls k _ _ l0 _ _ l1 true W g0 n0 g1 n1 hp).mono fun e W' ⟨he, bel⟩ => ?_
  subst he
  exact ⟨_, rfl, _, _, _, [], _, [], hW', trodAll_mk1 (shut_bool Try.underlying4 _), (trodAll_cons_mk (Below.trod laidOut (by kernel_rfl) (of_decide_eq_true (by kernel_rfl)) k0 bel lt0) (trodAll_cons_mk (Below.trod laidOut (by kernel_rfl) (of_decide_eq_true (by kernel_rfl)) k1 bel lt1) trodAll_mk0)), rfl, bel.frame _, fun h => by cases h⟩
def T : List (Nat × List Nat) := [(12, [36, 38, 53, 52, 38, 53, 54, 38, 40, 53, 55]), (36, [87]), (87, [119]), (119, []), (38, [90]), (90, [121]), (121, []), (53, []), (52, [37, 103]), (37, [88, 89]), (88, [120]), (120, [75]), (75, []), (89, []), (103, []), (54, [39, 104]), (39, [91, 92]), (91, [122, 123]), (122, [144]), (144, []), (123, [84]), (84, []), (92, [124]), (124, [145]), (145, [154, 154]), (154, []), (104, []), (40, [93]), (93, [47]), (47, []), (55, [])]
def CL : List Nat := [12, 36, 87, 119, 38, 90, 121, 53, 52, 37, 88, 120, 75, 89, 103, 54, 39, 91, 122, 144, 123, 84, 92, 124, 145, 154, 104, 40, 93, 47, 55]
def SL : List Nat := [12, 36, 37, 38, 39, 40, 47, 52, 53, 54, 55, 75, 84, 87, 88, 89, 90, 91, 92, 93, 103, 104, 119, 120, 121, 122, 123, 124, 144, 145, 154]
theorem tabOK : (CL.all fun g => Close.tab T g == Close.leads Try.prog g) = true := by kernel_rfl
theorem closed : Try.prog.closure 12 = CL := Close.closure_eq Try.prog 12 T CL SL 36 tabOK (by kernel_rfl) (by decide) (by kernel_rfl) (by decide)
def HC : List Nat := [104, 97, 114, 110, 101, 115, 115, 32, 54, 98, 52, 101, 99, 48, 55, 55, 49, 49, 49, 101, 100, 50, 99, 55, 56, 48, 98, 54, 50, 57, 50, 55, 57, 100, 98, 97, 55, 49, 52, 101, 50, 51, 56, 100, 102, 102, 99, 101, 98, 49, 49, 54, 57, 98, 100, 57, 99, 100, 97, 98, 50, 98, 56, 56, 49, 101, 52, 56, 48, 97, 100, 53, 32, 99, 117, 116, 32, 97, 116, 32, 108, 111, 111, 112, 46, 101, 120, 97, 109, 112, 108, 101, 47, 103, 48, 48, 54, 57, 52, 47, 108, 97, 119, 115, 46, 70, 110, 69, 120, 97, 99, 116, 71, 111, 111, 100, 84, 101, 114, 109, 32, 108, 111, 111, 112, 46, 101, 120, 97, 109, 112, 108, 101, 47, 103, 48, 48, 54, 57, 52, 47, 108, 97, 119, 115, 46, 70, 110, 69, 120, 97, 99, 116, 71, 111, 111, 100, 80, 97, 116, 116, 101, 114, 110, 32, 108, 111, 111, 112, 46, 101, 120, 97, 109, 112, 108, 101, 47, 103, 48, 48, 54, 57, 52, 47, 108, 97, 119, 115, 46, 70, 110, 69, 120, 97, 99, 116, 71, 111, 111, 100, 82, 117, 108, 101, 32, 108, 111, 111, 112, 46, 101, 120, 97, 109, 112, 108, 101, 47, 103, 48, 48, 54, 57, 52, 47, 108, 97, 119, 115, 46, 70, 110, 69, 120, 97, 99, 116, 80, 97, 114, 116, 65, 116, 32, 108, 111, 111, 112, 46, 101, 120, 97, 109, 112, 108, 101, 47, 103, 48, 48, 54, 57, 52, 47, 108, 97, 119, 115, 46, 70, 110, 69, 120, 97, 99, 116, 71, 111, 111, 100, 80, 111, 108, 121, 32, 108, 111, 111, 112, 46, 101, 120, 97, 109, 112, 108, 101, 47, 103, 48, 48, 54, 57, 52, 47, 108, 97, 119, 115, 46, 70, 110, 69, 120, 97, 99, 116, 73, 115, 82, 105, 110, 103, 32, 108, 111, 111, 112, 46, 101, 120, 97, 109, 112, 108, 101, 47, 103, 48, 48, 54, 57, 52, 47, 108, 97, 119, 115, 46, 70, 110, 69, 120, 97, 99, 116, 67, 111, 115, 116, 79, 102, 32, 108, 111, 111, 112, 46, 101, 120, 97, 109, 112, 108, 101, 47, 103, 48, 48, 54, 57, 52, 47, 108, 97, 119, 115, 46, 70, 110, 69, 120, 97, 99, 116, 86, 97, 114, 115, 73, 110, 32, 108, 111, 111, 112, 46, 101, 120, 97, 109, 112, 108, 101, 47, 103, 48, 48, 54, 57, 52, 47, 108, 97, 119, 115, 46, 70, 110, 69, 120, 97, 99, 116, 82, 101, 112, 108, 97, 99, 101, 65, 116, 32, 108, 111, 111, 112, 46, 101, 120, 97, 109, 112, 108, 101, 47, 103, 48, 48, 54, 57, 52, 47, 108, 97, 119, 115, 46, 70, 110, 69, 120, 97, 99, 116, 69, 118, 97, 108, 80, 111, 108, 121, 32, 108, 111, 111, 112, 46, 101, 120, 97, 109, 112, 108, 101, 47, 103, 48, 48, 54, 57, 52, 47, 108, 97, 119, 115, 46, 70, 110, 69, 120, 97, 99, 116, 83, 117, 114, 101, 86, 97, 114, 115, 32, 108, 111, 111, 112, 46, 101, 120, 97, 109, 112, 108, 101, 47, 103, 48, 48, 54, 57, 52, 47, 108, 97, 119, 115, 46, 70, 110, 69, 120, 97, 99, 116, 80, 117, 116, 65, 108, 108, 32, 108, 111, 111, 112, 46, 101, 120, 97, 109, 112, 108, 101, 47, 103, 48, 48, 54, 57, 52, 47, 108, 97, 119, 115, 46, 70, 110, 69, 120, 97, 99, 116, 74, 111, 105, 110, 84, 101, 114, 109, 32, 108, 111, 111, 112, 46, 101, 120, 97, 109, 112, 108, 101, 47, 103, 48, 48, 54, 57, 52, 47, 108, 97, 119, 115, 46, 70, 110, 69, 120, 97, 99, 116, 83, 97, 109, 101, 82, 117, 108, 101, 32, 108, 111, 111, 112, 46, 101, 120, 97, 109, 112, 108, 101, 47, 103, 48, 48, 54, 57, 52, 47, 108, 97, 119, 115, 46, 70, 110, 69, 120, 97, 99, 116, 69, 118, 97, 108, 84, 101, 114, 109, 32, 108, 111, 111, 112, 46, 101, 120, 97, 109, 112, 108, 101, 47, 103, 48, 48, 54, 57, 52, 47, 108, 97, 119, 115, 46, 70, 110, 69, 120, 97, 99, 116, 72, 111, 108, 100, 115, 65, 116, 32, 108, 111, 111, 112, 46, 101, 120, 97, 109, 112, 108, 101, 47, 103, 48, 48, 54, 57, 52, 47, 108, 97, 119, 115, 46, 70, 110, 69, 120, 97, 99, 116, 84, 101, 114, 109, 79, 102]
theorem head : Try.prog.initOrder.toList = HC.map Char.ofNat := by
  have h : Try.prog.initOrder = String.ofList (HC.map Char.ofNat) := by kernel_rfl
  rw [h, String.toList_ofList]
def WL : List (List Nat) := [[97, 116], [108, 111, 111, 112, 46, 101, 120, 97, 109, 112, 108, 101, 47, 103, 48, 48, 54, 57, 52, 47, 108, 97, 119, 115, 46, 70, 110, 69, 120, 97, 99, 116, 71, 111, 111, 100, 84, 101, 114, 109], [108, 111, 111, 112, 46, 101, 120, 97, 109, 112, 108, 101, 47, 103, 48, 48, 54, 57, 52, 47, 108, 97, 119, 115, 46, 70, 110, 69, 120, 97, 99, 116, 71, 111, 111, 100, 80, 97, 116, 116, 101, 114, 110], [108, 111, 111, 112, 46, 101, 120, 97, 109, 112, 108, 101, 47, 103, 48, 48, 54, 57, 52, 47, 108, 97, 119, 115, 46, 70, 110, 69, 120, 97, 99, 116, 71, 111, 111, 100, 82, 117, 108, 101], [108, 111, 111, 112, 46, 101, 120, 97, 109, 112, 108, 101, 47, 103, 48, 48, 54, 57, 52, 47, 108, 97, 119, 115, 46, 70, 110, 69, 120, 97, 99, 116, 80, 97, 114, 116, 65, 116], [108, 111, 111, 112, 46, 101, 120, 97, 109, 112, 108, 101, 47, 103, 48, 48, 54, 57, 52, 47, 108, 97, 119, 115, 46, 70, 110, 69, 120, 97, 99, 116, 71, 111, 111, 100, 80, 111, 108, 121], [108, 111, 111, 112, 46, 101, 120, 97, 109, 112, 108, 101, 47, 103, 48, 48, 54, 57, 52, 47, 108, 97, 119, 115, 46, 70, 110, 69, 120, 97, 99, 116, 73, 115, 82, 105, 110, 103], [108, 111, 111, 112, 46, 101, 120, 97, 109, 112, 108, 101, 47, 103, 48, 48, 54, 57, 52, 47, 108, 97, 119, 115, 46, 70, 110, 69, 120, 97, 99, 116, 67, 111, 115, 116, 79, 102], [108, 111, 111, 112, 46, 101, 120, 97, 109, 112, 108, 101, 47, 103, 48, 48, 54, 57, 52, 47, 108, 97, 119, 115, 46, 70, 110, 69, 120, 97, 99, 116, 86, 97, 114, 115, 73, 110], [108, 111, 111, 112, 46, 101, 120, 97, 109, 112, 108, 101, 47, 103, 48, 48, 54, 57, 52, 47, 108, 97, 119, 115, 46, 70, 110, 69, 120, 97, 99, 116, 82, 101, 112, 108, 97, 99, 101, 65, 116], [108, 111, 111, 112, 46, 101, 120, 97, 109, 112, 108, 101, 47, 103, 48, 48, 54, 57, 52, 47, 108, 97, 119, 115, 46, 70, 110, 69, 120, 97, 99, 116, 69, 118, 97, 108, 80, 111, 108, 121], [108, 111, 111, 112, 46, 101, 120, 97, 109, 112, 108, 101, 47, 103, 48, 48, 54, 57, 52, 47, 108, 97, 119, 115, 46, 70, 110, 69, 120, 97, 99, 116, 83, 117, 114, 101, 86, 97, 114, 115], [108, 111, 111, 112, 46, 101, 120, 97, 109, 112, 108, 101, 47, 103, 48, 48, 54, 57, 52, 47, 108, 97, 119, 115, 46, 70, 110, 69, 120, 97, 99, 116, 80, 117, 116, 65, 108, 108], [108, 111, 111, 112, 46, 101, 120, 97, 109, 112, 108, 101, 47, 103, 48, 48, 54, 57, 52, 47, 108, 97, 119, 115, 46, 70, 110, 69, 120, 97, 99, 116, 74, 111, 105, 110, 84, 101, 114, 109], [108, 111, 111, 112, 46, 101, 120, 97, 109, 112, 108, 101, 47, 103, 48, 48, 54, 57, 52, 47, 108, 97, 119, 115, 46, 70, 110, 69, 120, 97, 99, 116, 83, 97, 109, 101, 82, 117, 108, 101], [108, 111, 111, 112, 46, 101, 120, 97, 109, 112, 108, 101, 47, 103, 48, 48, 54, 57, 52, 47, 108, 97, 119, 115, 46, 70, 110, 69, 120, 97, 99, 116, 69, 118, 97, 108, 84, 101, 114, 109], [108, 111, 111, 112, 46, 101, 120, 97, 109, 112, 108, 101, 47, 103, 48, 48, 54, 57, 52, 47, 108, 97, 119, 115, 46, 70, 110, 69, 120, 97, 99, 116, 72, 111, 108, 100, 115, 65, 116], [108, 111, 111, 112, 46, 101, 120, 97, 109, 112, 108, 101, 47, 103, 48, 48, 54, 57, 52, 47, 108, 97, 119, 115, 46, 70, 110, 69, 120, 97, 99, 116, 84, 101, 114, 109, 79, 102]]
theorem words : behindMainWord (wordsSigns Try.prog.initOrder.toList) = "cut".toList :: WL.map (fun l => l.map Char.ofNat) := by rw [head]; kernel_rfl
theorem fact0 : (Rows.fnExactEvalPolyRow.wf (OpenSpec.ofChange Rows.fnExactEvalPolySpec)) = true := by kernel_rfl
theorem fact1 : (laidOutB Try.prog) = true := by kernel_rfl
theorem fact2 : (mapsRowed Try.prog) = true := by kernel_rfl
theorem fact3 : (Try.f12.params.all (Try.prog.readableRec ·)) = true := by kernel_rfl
theorem fact4 : (namedTie Try.prog Rows.fnExactEvalPolyRow.named Rows.fnExactEvalPolySpec.vars) = true := by kernel_rfl
theorem fact5 : ((Rows.fnExactEvalPolyRow.stops == [])) = true := by kernel_rfl
theorem fact6 : ((Try.prog.stops == [])) = true := by kernel_rfl
theorem fact7 : ((Rows.fnExactEvalPolyRow.knobs == [])) = true := by kernel_rfl
theorem fact8 : ((Try.prog.stopKnobs == [])) = true := by kernel_rfl
theorem fact9 : ((Rows.fnExactEvalPolyRow.inPlace == Try.prog.inPlace 12)) = true := by unfold Program.inPlace; rw [closed]; kernel_rfl
theorem fact10 : ((Rows.fnExactEvalPolyRow.unfollowed == Try.prog.unfollowed 12)) = true := by unfold Program.unfollowed; rw [closed]; kernel_rfl
theorem fact11 : ((Rows.fnExactEvalPolyRow.recurses == Try.prog.recurses 12)) = true := by rw [Close.recurses_true Try.prog 12 (by unfold Program.unfollowed; rw [closed]; kernel_rfl)]; rfl
theorem fact12 : ((Rows.fnExactEvalPolyRow.named == Try.prog.varsNamed 12)) = true := by unfold Program.varsNamed; rw [closed]; kernel_rfl
theorem fact13 : ((Rows.fnExactEvalPolyRow.maps == (Try.f12.params.toList ++ Rows.fnExactEvalPolySpec.plain.varTypes Try.prog).any (Try.prog.mapsRec ·))) = true := by kernel_rfl
theorem fact14 : ((Rows.fnExactEvalPolyRow.ifaces == (Try.f12.params.toList ++ Rows.fnExactEvalPolySpec.plain.varTypes Try.prog).any (Try.prog.ifacesRec ·))) = true := by kernel_rfl
theorem fact15 : ((Rows.fnExactEvalPolyRow.mapsOut == Try.prog.mapsAmong Try.f12.resultTypes.toList)) = true := by kernel_rfl
theorem fact16 : ((Rows.fnExactEvalPolyRow.loops == (Try.f12.params.toList ++ Rows.fnExactEvalPolySpec.plain.varTypes Try.prog).any (Try.prog.loopsFrom ·))) = true := by kernel_rfl
theorem fact17 : ((Rows.fnExactEvalPolyRow.wideKeys == (Try.f12.params.toList ++ Rows.fnExactEvalPolySpec.plain.varTypes Try.prog ++ Try.f12.resultTypes.toList).any (Try.prog.wideKeysFrom ·))) = true := by kernel_rfl
theorem fact18 : (Rows.fnExactEvalPolySpec.vars.all (Try.prog.varReadable ·)) = true := by kernel_rfl
theorem fact19 : (Try.f12.resultTypes.all (fun t => Try.prog.readableRec t && decide (t < Try.prog.types.size))) = true := by kernel_rfl
theorem fact20 : ((Rows.fnExactEvalPolyRow.ifacesOut == Try.f12.resultTypes.toList.any (Try.prog.ifacesRec ·))) = true := by kernel_rfl
theorem fact21 : ((Rows.fnExactEvalPolyRow.loopsOut == Try.f12.resultTypes.toList.any (Try.prog.loopsFrom ·))) = true := by kernel_rfl
theorem fact22 : ((Rows.fnExactEvalPolyRow.plainKeys == Try.prog.plainKeys)) = true := by kernel_rfl
theorem fact23 : (Rows.fnExactEvalPolyRow.shortTexts.isNone) = true := by kernel_rfl
theorem fact24 : (Try.prog.stopsHeard) = true := by kernel_rfl
theorem fact25 : (Try.prog.mayEnter) = true := Close.may_enter Try.prog _ words (by kernel_rfl) (by kernel_rfl) (by kernel_rfl)
theorem fact26 : ((Rows.fnExactEvalPolyRow.lifted == Try.prog.liftsFinal)) = true := by rw [Close.lifts_final Try.prog _ words]; rfl
theorem fact27 : ((Try.prog.make == some Rows.fnExactEvalPolyRow.make)) = true := by rw [Close.make_cut Try.prog _ words]; rfl
theorem fact28 : ((Rows.fnExactEvalPolyRow.kinds == (if Rows.fnExactEvalPolyRow.domain.isEmpty then [] else Try.f12.params.toList.map fun t => match Try.prog.underlying t with | some (.int k) => some k | _ => none))) = true := by kernel_rfl
theorem fact29 : ((Rows.fnExactEvalPolyRow.pinned == Rows.fnExactEvalPolyRow.pinnedBy)) = true := by kernel_rfl
theorem fact30 : ((Rows.fnExactEvalPolyRow.veiled == (Try.f12.params.toList ++ Rows.fnExactEvalPolySpec.plain.varTypes Try.prog ++ Try.f12.resultTypes.toList).any (Try.prog.veiledRec ·))) = true := by kernel_rfl
theorem fact31 : (Rows.fnExactEvalPolyRow.veiledFits Try.prog Try.f12.params.toList (Try.f12.params.toList ++ Rows.fnExactEvalPolySpec.plain.varTypes Try.prog ++ Try.f12.resultTypes.toList)) = true := by kernel_rfl
set_option maxRecDepth 100000 in
theorem facts : joinedFacts Try.prog 12 Try.f12 Rows.fnExactEvalPolySpec Rows.fnExactEvalPolyRow = true := by
  unfold joinedFacts
  simp only [Bool.and_eq_true]
  exact ⟨⟨⟨⟨⟨⟨⟨⟨⟨⟨⟨⟨⟨⟨⟨⟨⟨⟨⟨⟨⟨⟨⟨⟨⟨⟨⟨⟨⟨⟨⟨fact0, fact1⟩, fact2⟩, fact3⟩, fact4⟩, fact5⟩, fact6⟩, fact7⟩, fact8⟩, fact9⟩, fact10⟩, fact11⟩, fact12⟩, fact13⟩, fact14⟩, fact15⟩, fact16⟩, fact17⟩, fact18⟩, fact19⟩, fact20⟩, fact21⟩, fact22⟩, fact23⟩, fact24⟩, fact25⟩, fact26⟩, fact27⟩, fact28⟩, fact29⟩, fact30⟩, fact31⟩
theorem named : Try.prog.funcNamed Rows.fnExactEvalPolyRow.func = some 12 := by kernel_rfl
theorem inst : Try.f12.isInstance Try.prog Rows.fnExactEvalPolyRow.origin Rows.fnExactEvalPolyRow.targs := of_decide_eq_true (by kernel_rfl)
theorem wrap : Try.f12.isWrapper Try.prog Rows.fnExactEvalPolyRow.wrapper Rows.fnExactEvalPolyRow.mainSum := by unfold Func.isWrapper; first | (rw [if_pos (by decide +kernel)]; kernel_rfl) | (rw [if_neg (by decide +kernel)]; exact ⟨rfl, rfl⟩)
theorem over : Rows.fnExactEvalPolyRow.holds Try.pinned (OpenSpec.ofChange Rows.fnExactEvalPolySpec) :=
  OpenClaim.holds_of_wide 12 Try.f12 rfl rfl rfl rfl rfl rfl rfl ⟨rfl, rfl, rfl, rfl, rfl⟩ rfl rfl rfl rfl rfl named Try.func12 facts inst wrap
    (fun os started H enc _ => lifted os started H enc)
theorem proved : Rows.FnExactEvalPolySaid := over
#print axioms proved
end Go.Proofs.Ytlneknaiimmfmaa.fnExactEvalPoly
namespace Go.Proofs.Ytlneknaiimmfmaa
/-- The row, under a short name, for the claim. -/
theorem fnExactEvalPoly_holds : Rows.FnExactEvalPolySaid := fnExactEvalPoly.proved
end Go.Proofs.Ytlneknaiimmfmaa
