/- The row of FnExactExtract, for every input; its conditions are those of the given row alone. -/
import Derived.Test.YtakblgcheakbnaaRows
import Derived.Test.YtakblgcheakbnaaPFnExactExtractx18
import Derived.Test.YtakblgcheakbnaaRdFnExactExtract
import Derived.Test.YtakblgcheakbnaaPureFnExactExtract
import Derived.WalkKit
import Derived.Test.YtakblgcheakbnaaVFnExactExtracta
import Derived.ProofKit
import Derived.OpenShut
import Derived.ShutString
import Derived.ChangeOld
import Derived.Below
import Derived.SizedLaws
namespace Go.Proofs.Ytakblgcheakbnaa.fnExactExtract
open Go.ChangeShapes Go.WideShapes Go.ChangeAt Go.RowKit
open Go.ChangeMaps (open_string shut_string)
set_option linter.unusedVariables false
theorem own : ownKnob Try.prog.godebug = none := by kernel_rfl
theorem laidOut : laidOutB Try.prog = true := by kernel_rfl
set_option maxRecDepth 100000 in
theorem lifted (os : Os) (started : os.Started) (H : Type) (enc : TypeId × Value → H) :
    ReturnsInHanded {} Try.checked os 16 .any (Rows.fnExactExtractSpec.pre6 enc Try.prog Try.f16 Rows.fnExactExtractRow.domain false) (Rows.fnExactExtractSpec.post enc Try.prog Try.f16 false true false false) := by
  refine returnsInHanded_of_change_sized (C := Try.checked) own started (by kernel_rfl) Try.func16
    (ChangeSpec.witness6 (enc := enc) (C := Try.checked) false ⟨#[], #[.agg #[.slice none 0 0, .slice none 0 0], .int .i64 0], []⟩ 8 (by kernel_rfl) (by kernel_rfl) (by kernel_rfl) (by kernel_rfl)) ?_
  intro W base args ds gs before hval0 hW hcnd hsz0 _
  have hval : ∀ (j : Nat) t v, Try.f16.params[j]? = some t → args[j]? = some v → Value.okWide Try.prog W .any base t v := hval0
  have hW' := hW
  obtain ⟨p, q, hA0, hV, rfl, hfz, hnd⟩ := hW
  have hA : DataW.TrodAll enc Try.prog W 0 (fun _ => true) true Try.f16.params.toList args.toList ds p := hA0
  rw [Try.params16] at hA hval
  obtain ⟨v0, vs0, d0, ds0, p0, q0, hargs, rfl, rfl, h0, r0⟩ := trodAll_cons hA
  obtain ⟨v1, vs1, d1, ds1, p1, q1, rfl, rfl, rfl, h1, r1⟩ := trodAll_cons r0
  obtain ⟨rfl, rfl, rfl⟩ := trodAll_nil r1
  obtain rfl : args = #[v0, v1] := by cases args; simp_all
  obtain ⟨rfl, rfl⟩ := trodVars_none hV
  have k0 := h0
  have lt0 : ∀ x ∈ p0, x.block < W.heap.size := by obtain ⟨m, hm⟩ := k0; exact DataW.trod_lt m _ _ _ hm
  obtain ⟨⟨cl0⟩, rfl, _⟩ := okWide_struct Try.underlying25 (hval 0 25 v0 rfl rfl)
  obtain ⟨x0, kk0, ok0⟩ := Open.of_trod RdFnExactExtract.reads25 h0
  obtain ⟨A0_0, c0_0, A0_1, c0_1, e0, l0_0, g0_0, l0_1, g0_1⟩ := PFnExactExtract.k25_open kk0
  obtain rfl : cl0 = _ := e0
  obtain ⟨a1, rfl, rfl, rfl, w1⟩ := open_int Try.underlying3 (hval 1 3 v1 rfl rfl) h1
  clear hA0 hval0 hsz0
  obtain ⟨k, hp⟩ := Pure.FnExactExtract x0 a1 ok0 g0_0.2.1 g0_1.2.1 w1
  refine (PFnExactExtract.laws_FnExactExtract.calls k _ _ x0.f0 _ _ x0.f1 a1 true W g0_0 l0_0 g0_1 l0_1 hp).mono fun e W' ⟨he, bel⟩ => ?_
  subst he
  exact ⟨_, rfl, _, _, _, [], _, [], hW', trodAll_mk1 (shut_bool Try.underlying4 _), (trodAll_cons_mk (Below.trod laidOut (by kernel_rfl) (of_decide_eq_true (by kernel_rfl)) k0 bel lt0) (trodAll_cons_mk (shut_int Try.underlying3 w1) trodAll_mk0)), rfl, bel.frame _, fun h => by cases h⟩
def T : List (Nat × List Nat) := [(16, [17, 20, 71, 20, 72, 25, 20, 24, 26, 25, 27, 73, 20, 72, 25, 73]), (17, [51, 74]), (51, [111]), (111, [74]), (74, []), (20, [53, 54]), (53, [113]), (113, [54]), (54, []), (71, [35, 76, 119, 133, 129, 134]), (35, [87, 88, 89]), (87, [144, 145]), (144, [166]), (166, [96]), (96, []), (145, [96]), (88, [96]), (89, [146]), (146, []), (76, [96]), (119, [158]), (158, [168]), (168, []), (133, [118, 133]), (118, [158]), (129, [96, 166]), (134, [168]), (72, [36, 80, 121, 135, 136, 137]), (36, [90, 91, 93, 92, 94]), (90, [147]), (147, [174, 175, 176, 92]), (174, [187]), (187, [99]), (99, []), (175, []), (176, [99]), (92, [150]), (150, []), (91, [148, 149, 92]), (148, [99]), (149, []), (93, []), (94, [151]), (151, []), (80, [99]), (121, [159]), (159, [171]), (171, []), (135, [120, 135]), (120, [110, 159, 159]), (110, []), (136, [169, 170]), (169, [169]), (170, [170]), (137, [171]), (25, [83]), (83, []), (24, [56, 46]), (56, [117]), (117, [46]), (46, []), (26, [57, 47]), (57, [47]), (47, []), (27, []), (73, [])]
def CL : List Nat := [16, 17, 51, 111, 74, 20, 53, 113, 54, 71, 35, 87, 144, 166, 96, 145, 88, 89, 146, 76, 119, 158, 168, 133, 118, 129, 134, 72, 36, 90, 147, 174, 187, 99, 175, 176, 92, 150, 91, 148, 149, 93, 94, 151, 80, 121, 159, 171, 135, 120, 110, 136, 169, 170, 137, 25, 83, 24, 56, 117, 46, 26, 57, 47, 27, 73]
def SL : List Nat := [16, 17, 20, 24, 25, 26, 27, 35, 36, 46, 47, 51, 53, 54, 56, 57, 71, 72, 73, 74, 76, 80, 83, 87, 88, 89, 90, 91, 92, 93, 94, 96, 99, 110, 111, 113, 117, 118, 119, 120, 121, 129, 133, 134, 135, 136, 137, 144, 145, 146, 147, 148, 149, 150, 151, 158, 159, 166, 168, 169, 170, 171, 174, 175, 176, 187]
theorem tab16 : (Close.tab T 16 == Close.leads Try.prog 16) = true := by kernel_rfl
theorem tab17 : (Close.tab T 17 == Close.leads Try.prog 17) = true := by kernel_rfl
theorem tab51 : (Close.tab T 51 == Close.leads Try.prog 51) = true := by kernel_rfl
theorem tab111 : (Close.tab T 111 == Close.leads Try.prog 111) = true := by kernel_rfl
theorem tab74 : (Close.tab T 74 == Close.leads Try.prog 74) = true := by kernel_rfl
theorem tab20 : (Close.tab T 20 == Close.leads Try.prog 20) = true := by kernel_rfl
theorem tab53 : (Close.tab T 53 == Close.leads Try.prog 53) = true := by kernel_rfl
theorem tab113 : (Close.tab T 113 == Close.leads Try.prog 113) = true := by kernel_rfl
theorem tab54 : (Close.tab T 54 == Close.leads Try.prog 54) = true := by kernel_rfl
theorem tab71 : (Close.tab T 71 == Close.leads Try.prog 71) = true := by kernel_rfl
theorem tab35 : (Close.tab T 35 == Close.leads Try.prog 35) = true := by kernel_rfl
theorem tab87 : (Close.tab T 87 == Close.leads Try.prog 87) = true := by kernel_rfl
theorem tab144 : (Close.tab T 144 == Close.leads Try.prog 144) = true := by kernel_rfl
theorem tab166 : (Close.tab T 166 == Close.leads Try.prog 166) = true := by kernel_rfl
theorem tab96 : (Close.tab T 96 == Close.leads Try.prog 96) = true := by kernel_rfl
theorem tab145 : (Close.tab T 145 == Close.leads Try.prog 145) = true := by kernel_rfl
theorem tab88 : (Close.tab T 88 == Close.leads Try.prog 88) = true := by kernel_rfl
theorem tab89 : (Close.tab T 89 == Close.leads Try.prog 89) = true := by kernel_rfl
theorem tab146 : (Close.tab T 146 == Close.leads Try.prog 146) = true := by kernel_rfl
theorem tab76 : (Close.tab T 76 == Close.leads Try.prog 76) = true := by kernel_rfl
theorem tab119 : (Close.tab T 119 == Close.leads Try.prog 119) = true := by kernel_rfl
theorem tab158 : (Close.tab T 158 == Close.leads Try.prog 158) = true := by kernel_rfl
theorem tab168 : (Close.tab T 168 == Close.leads Try.prog 168) = true := by kernel_rfl
theorem tab133 : (Close.tab T 133 == Close.leads Try.prog 133) = true := by kernel_rfl
theorem tab118 : (Close.tab T 118 == Close.leads Try.prog 118) = true := by kernel_rfl
theorem tab129 : (Close.tab T 129 == Close.leads Try.prog 129) = true := by kernel_rfl
theorem tab134 : (Close.tab T 134 == Close.leads Try.prog 134) = true := by kernel_rfl
theorem tab72 : (Close.tab T 72 == Close.leads Try.prog 72) = true := by kernel_rfl
theorem tab36 : (Close.tab T 36 == Close.leads Try.prog 36) = true := by kernel_rfl
theorem tab90 : (Close.tab T 90 == Close.leads Try.prog 90) = true := by kernel_rfl
theorem tab147 : (Close.tab T 147 == Close.leads Try.prog 147) = true := by kernel_rfl
theorem tab174 : (Close.tab T 174 == Close.leads Try.prog 174) = true := by kernel_rfl
theorem tab187 : (Close.tab T 187 == Close.leads Try.prog 187) = true := by kernel_rfl
theorem tab99 : (Close.tab T 99 == Close.leads Try.prog 99) = true := by kernel_rfl
theorem tab175 : (Close.tab T 175 == Close.leads Try.prog 175) = true := by kernel_rfl
theorem tab176 : (Close.tab T 176 == Close.leads Try.prog 176) = true := by kernel_rfl
theorem tab92 : (Close.tab T 92 == Close.leads Try.prog 92) = true := by kernel_rfl
theorem tab150 : (Close.tab T 150 == Close.leads Try.prog 150) = true := by kernel_rfl
theorem tab91 : (Close.tab T 91 == Close.leads Try.prog 91) = true := by kernel_rfl
theorem tab148 : (Close.tab T 148 == Close.leads Try.prog 148) = true := by kernel_rfl
theorem tab149 : (Close.tab T 149 == Close.leads Try.prog 149) = true := by kernel_rfl
theorem tab93 : (Close.tab T 93 == Close.leads Try.prog 93) = true := by kernel_rfl
theorem tab94 : (Close.tab T 94 == Close.leads Try.prog 94) = true := by kernel_rfl
theorem tab151 : (Close.tab T 151 == Close.leads Try.prog 151) = true := by kernel_rfl
theorem tab80 : (Close.tab T 80 == Close.leads Try.prog 80) = true := by kernel_rfl
theorem tab121 : (Close.tab T 121 == Close.leads Try.prog 121) = true := by kernel_rfl
theorem tab159 : (Close.tab T 159 == Close.leads Try.prog 159) = true := by kernel_rfl
theorem tab171 : (Close.tab T 171 == Close.leads Try.prog 171) = true := by kernel_rfl
theorem tab135 : (Close.tab T 135 == Close.leads Try.prog 135) = true := by kernel_rfl
theorem tab120 : (Close.tab T 120 == Close.leads Try.prog 120) = true := by kernel_rfl
theorem tab110 : (Close.tab T 110 == Close.leads Try.prog 110) = true := by kernel_rfl
theorem tab136 : (Close.tab T 136 == Close.leads Try.prog 136) = true := by kernel_rfl
theorem tab169 : (Close.tab T 169 == Close.leads Try.prog 169) = true := by kernel_rfl
theorem tab170 : (Close.tab T 170 == Close.leads Try.prog 170) = true := by kernel_rfl
theorem tab137 : (Close.tab T 137 == Close.leads Try.prog 137) = true := by kernel_rfl
theorem tab25 : (Close.tab T 25 == Close.leads Try.prog 25) = true := by kernel_rfl
theorem tab83 : (Close.tab T 83 == Close.leads Try.prog 83) = true := by kernel_rfl
theorem tab24 : (Close.tab T 24 == Close.leads Try.prog 24) = true := by kernel_rfl
theorem tab56 : (Close.tab T 56 == Close.leads Try.prog 56) = true := by kernel_rfl
theorem tab117 : (Close.tab T 117 == Close.leads Try.prog 117) = true := by kernel_rfl
theorem tab46 : (Close.tab T 46 == Close.leads Try.prog 46) = true := by kernel_rfl
theorem tab26 : (Close.tab T 26 == Close.leads Try.prog 26) = true := by kernel_rfl
theorem tab57 : (Close.tab T 57 == Close.leads Try.prog 57) = true := by kernel_rfl
theorem tab47 : (Close.tab T 47 == Close.leads Try.prog 47) = true := by kernel_rfl
theorem tab27 : (Close.tab T 27 == Close.leads Try.prog 27) = true := by kernel_rfl
theorem tab73 : (Close.tab T 73 == Close.leads Try.prog 73) = true := by kernel_rfl
theorem tabOK : (CL.all fun g => Close.tab T g == Close.leads Try.prog g) = true := by
  unfold CL
  simp only [List.all_cons, List.all_nil, Bool.and_true, Bool.and_eq_true]
  exact ⟨tab16, tab17, tab51, tab111, tab74, tab20, tab53, tab113, tab54, tab71, tab35, tab87, tab144, tab166, tab96, tab145, tab88, tab89, tab146, tab76, tab119, tab158, tab168, tab133, tab118, tab129, tab134, tab72, tab36, tab90, tab147, tab174, tab187, tab99, tab175, tab176, tab92, tab150, tab91, tab148, tab149, tab93, tab94, tab151, tab80, tab121, tab159, tab171, tab135, tab120, tab110, tab136, tab169, tab170, tab137, tab25, tab83, tab24, tab56, tab117, tab46, tab26, tab57, tab47, tab27, tab73⟩
theorem closed : Try.prog.closure 16 = CL := Close.closure_eq Try.prog 16 T CL SL 96 tabOK (by kernel_rfl) (by decide) (by kernel_rfl) (by decide)
def HC : List Nat := [104, 97, 114, 110, 101, 115, 115, 32, 51, 98, 102, 98, 51, 97, 98, 102, 97, 56, 57, 102, 101, 49, 52, 56, 51, 48, 56, 97, 48, 57, 99, 57, 102, 48, 99, 49, 101, 51, 97, 101, 52, 49, 51, 49, 97, 56, 48, 48, 57, 101, 98, 55, 53, 55, 53, 51, 54, 49, 57, 49, 55, 51, 56, 51, 54, 55, 100, 54, 52, 51, 48, 99, 32, 99, 117, 116, 32, 97, 116, 32, 108, 111, 111, 112, 46, 101, 120, 97, 109, 112, 108, 101, 47, 103, 48, 48, 54, 57, 52, 47, 108, 97, 119, 115, 46, 70, 110, 69, 120, 97, 99, 116, 77, 97, 116, 99, 104, 65, 116, 32, 108, 111, 111, 112, 46, 101, 120, 97, 109, 112, 108, 101, 47, 103, 48, 48, 54, 57, 52, 47, 108, 97, 119, 115, 46, 70, 110, 69, 120, 97, 99, 116, 65, 108, 108, 77, 97, 116, 99, 104, 101, 115, 32, 108, 111, 111, 112, 46, 101, 120, 97, 109, 112, 108, 101, 47, 103, 48, 48, 54, 57, 52, 47, 108, 97, 119, 115, 46, 70, 110, 69, 120, 97, 99, 116, 71, 111, 111, 100, 71, 114, 97, 112, 104, 32, 108, 111, 111, 112, 46, 101, 120, 97, 109, 112, 108, 101, 47, 103, 48, 48, 54, 57, 52, 47, 108, 97, 119, 115, 46, 70, 110, 69, 120, 97, 99, 116, 68, 114, 111, 112, 76, 105, 110, 107, 32, 108, 111, 111, 112, 46, 101, 120, 97, 109, 112, 108, 101, 47, 103, 48, 48, 54, 57, 52, 47, 108, 97, 119, 115, 46, 70, 110, 69, 120, 97, 99, 116, 67, 108, 97, 115, 115, 101, 115, 73, 110, 32, 108, 111, 111, 112, 46, 101, 120, 97, 109, 112, 108, 101, 47, 103, 48, 48, 54, 57, 52, 47, 108, 97, 119, 115, 46, 70, 110, 69, 120, 97, 99, 116, 78, 111, 100, 101, 115, 73, 110, 32, 108, 111, 111, 112, 46, 101, 120, 97, 109, 112, 108, 101, 47, 103, 48, 48, 54, 57, 52, 47, 108, 97, 119, 115, 46, 70, 110, 69, 120, 97, 99, 116, 67, 108, 111, 115, 101, 100, 32, 108, 111, 111, 112, 46, 101, 120, 97, 109, 112, 108, 101, 47, 103, 48, 48, 54, 57, 52, 47, 108, 97, 119, 115, 46, 70, 110, 69, 120, 97, 99, 116, 67, 104, 111, 115, 101, 110, 73, 110, 32, 108, 111, 111, 112, 46, 101, 120, 97, 109, 112, 108, 101, 47, 103, 48, 48, 54, 57, 52, 47, 108, 97, 119, 115, 46, 70, 110, 69, 120, 97, 99, 116, 66, 101, 115, 116, 67, 111, 115, 116, 115, 32, 108, 111, 111, 112, 46, 101, 120, 97, 109, 112, 108, 101, 47, 103, 48, 48, 54, 57, 52, 47, 108, 97, 119, 115, 46, 70, 110, 69, 120, 97, 99, 116, 73, 115, 77, 97, 116, 99, 104, 32, 108, 111, 111, 112, 46, 101, 120, 97, 109, 112, 108, 101, 47, 103, 48, 48, 54, 57, 52, 47, 108, 97, 119, 115, 46, 70, 110, 69, 120, 97, 99, 116, 70, 105, 110, 100, 84, 101, 114, 109, 32, 108, 111, 111, 112, 46, 101, 120, 97, 109, 112, 108, 101, 47, 103, 48, 48, 54, 57, 52, 47, 108, 97, 119, 115, 46, 70, 110, 69, 120, 97, 99, 116, 72, 111, 108, 100, 115, 84, 101, 114, 109, 32, 108, 111, 111, 112, 46, 101, 120, 97, 109, 112, 108, 101, 47, 103, 48, 48, 54, 57, 52, 47, 108, 97, 119, 115, 46, 70, 110, 69, 120, 97, 99, 116, 77, 101, 114, 103, 101, 32, 108, 111, 111, 112, 46, 101, 120, 97, 109, 112, 108, 101, 47, 103, 48, 48, 54, 57, 52, 47, 108, 97, 119, 115, 46, 70, 110, 69, 120, 97, 99, 116, 69, 120, 116, 114, 97, 99, 116]
theorem head : Try.prog.initOrder.toList = HC.map Char.ofNat := by
  have h : Try.prog.initOrder = String.ofList (HC.map Char.ofNat) := by kernel_rfl
  rw [h, String.toList_ofList]
def WL : List (List Nat) := [[97, 116], [108, 111, 111, 112, 46, 101, 120, 97, 109, 112, 108, 101, 47, 103, 48, 48, 54, 57, 52, 47, 108, 97, 119, 115, 46, 70, 110, 69, 120, 97, 99, 116, 77, 97, 116, 99, 104, 65, 116], [108, 111, 111, 112, 46, 101, 120, 97, 109, 112, 108, 101, 47, 103, 48, 48, 54, 57, 52, 47, 108, 97, 119, 115, 46, 70, 110, 69, 120, 97, 99, 116, 65, 108, 108, 77, 97, 116, 99, 104, 101, 115], [108, 111, 111, 112, 46, 101, 120, 97, 109, 112, 108, 101, 47, 103, 48, 48, 54, 57, 52, 47, 108, 97, 119, 115, 46, 70, 110, 69, 120, 97, 99, 116, 71, 111, 111, 100, 71, 114, 97, 112, 104], [108, 111, 111, 112, 46, 101, 120, 97, 109, 112, 108, 101, 47, 103, 48, 48, 54, 57, 52, 47, 108, 97, 119, 115, 46, 70, 110, 69, 120, 97, 99, 116, 68, 114, 111, 112, 76, 105, 110, 107], [108, 111, 111, 112, 46, 101, 120, 97, 109, 112, 108, 101, 47, 103, 48, 48, 54, 57, 52, 47, 108, 97, 119, 115, 46, 70, 110, 69, 120, 97, 99, 116, 67, 108, 97, 115, 115, 101, 115, 73, 110], [108, 111, 111, 112, 46, 101, 120, 97, 109, 112, 108, 101, 47, 103, 48, 48, 54, 57, 52, 47, 108, 97, 119, 115, 46, 70, 110, 69, 120, 97, 99, 116, 78, 111, 100, 101, 115, 73, 110], [108, 111, 111, 112, 46, 101, 120, 97, 109, 112, 108, 101, 47, 103, 48, 48, 54, 57, 52, 47, 108, 97, 119, 115, 46, 70, 110, 69, 120, 97, 99, 116, 67, 108, 111, 115, 101, 100], [108, 111, 111, 112, 46, 101, 120, 97, 109, 112, 108, 101, 47, 103, 48, 48, 54, 57, 52, 47, 108, 97, 119, 115, 46, 70, 110, 69, 120, 97, 99, 116, 67, 104, 111, 115, 101, 110, 73, 110], [108, 111, 111, 112, 46, 101, 120, 97, 109, 112, 108, 101, 47, 103, 48, 48, 54, 57, 52, 47, 108, 97, 119, 115, 46, 70, 110, 69, 120, 97, 99, 116, 66, 101, 115, 116, 67, 111, 115, 116, 115], [108, 111, 111, 112, 46, 101, 120, 97, 109, 112, 108, 101, 47, 103, 48, 48, 54, 57, 52, 47, 108, 97, 119, 115, 46, 70, 110, 69, 120, 97, 99, 116, 73, 115, 77, 97, 116, 99, 104], [108, 111, 111, 112, 46, 101, 120, 97, 109, 112, 108, 101, 47, 103, 48, 48, 54, 57, 52, 47, 108, 97, 119, 115, 46, 70, 110, 69, 120, 97, 99, 116, 70, 105, 110, 100, 84, 101, 114, 109], [108, 111, 111, 112, 46, 101, 120, 97, 109, 112, 108, 101, 47, 103, 48, 48, 54, 57, 52, 47, 108, 97, 119, 115, 46, 70, 110, 69, 120, 97, 99, 116, 72, 111, 108, 100, 115, 84, 101, 114, 109], [108, 111, 111, 112, 46, 101, 120, 97, 109, 112, 108, 101, 47, 103, 48, 48, 54, 57, 52, 47, 108, 97, 119, 115, 46, 70, 110, 69, 120, 97, 99, 116, 77, 101, 114, 103, 101], [108, 111, 111, 112, 46, 101, 120, 97, 109, 112, 108, 101, 47, 103, 48, 48, 54, 57, 52, 47, 108, 97, 119, 115, 46, 70, 110, 69, 120, 97, 99, 116, 69, 120, 116, 114, 97, 99, 116]]
theorem words : behindMainWord (wordsSigns Try.prog.initOrder.toList) = "cut".toList :: WL.map (fun l => l.map Char.ofNat) := by rw [head]; kernel_rfl
theorem fact0 : (Rows.fnExactExtractRow.wf (OpenSpec.ofChange Rows.fnExactExtractSpec)) = true := by kernel_rfl
theorem fact1 : (laidOutB Try.prog) = true := by kernel_rfl
theorem fact2 : (mapsRowed Try.prog) = true := by kernel_rfl
theorem fact3 : (Try.f16.params.all (Try.prog.readableRec ·)) = true := by kernel_rfl
theorem fact4 : (namedTie Try.prog Rows.fnExactExtractRow.named Rows.fnExactExtractSpec.vars) = true := by kernel_rfl
theorem fact5 : ((Rows.fnExactExtractRow.stops == [])) = true := by kernel_rfl
theorem fact6 : ((Try.prog.stops == [])) = true := by kernel_rfl
theorem fact7 : ((Rows.fnExactExtractRow.knobs == [])) = true := by kernel_rfl
theorem fact8 : ((Try.prog.stopKnobs == [])) = true := by kernel_rfl
theorem fact9 : ((Rows.fnExactExtractRow.inPlace == Try.prog.inPlace 16)) = true := by unfold Program.inPlace; rw [closed]; kernel_rfl
theorem fact10 : ((Rows.fnExactExtractRow.unfollowed == Try.prog.unfollowed 16)) = true := by unfold Program.unfollowed; rw [closed]; kernel_rfl
theorem fact11 : ((Rows.fnExactExtractRow.recurses == Try.prog.recurses 16)) = true := by rw [Close.recurses_true Try.prog 16 (by unfold Program.unfollowed; rw [closed]; kernel_rfl)]; rfl
theorem fact12 : ((Rows.fnExactExtractRow.named == Try.prog.varsNamed 16)) = true := by unfold Program.varsNamed; rw [closed]; kernel_rfl
theorem fact13 : ((Rows.fnExactExtractRow.maps == (Try.f16.params.toList ++ Rows.fnExactExtractSpec.plain.varTypes Try.prog).any (Try.prog.mapsRec ·))) = true := by kernel_rfl
theorem fact14 : ((Rows.fnExactExtractRow.ifaces == (Try.f16.params.toList ++ Rows.fnExactExtractSpec.plain.varTypes Try.prog).any (Try.prog.ifacesRec ·))) = true := by kernel_rfl
theorem fact15 : ((Rows.fnExactExtractRow.mapsOut == Try.prog.mapsAmong Try.f16.resultTypes.toList)) = true := by kernel_rfl
theorem fact16 : ((Rows.fnExactExtractRow.loops == (Try.f16.params.toList ++ Rows.fnExactExtractSpec.plain.varTypes Try.prog).any (Try.prog.loopsFrom ·))) = true := by kernel_rfl
theorem fact17 : ((Rows.fnExactExtractRow.wideKeys == (Try.f16.params.toList ++ Rows.fnExactExtractSpec.plain.varTypes Try.prog ++ Try.f16.resultTypes.toList).any (Try.prog.wideKeysFrom ·))) = true := by kernel_rfl
theorem fact18 : (Rows.fnExactExtractSpec.vars.all (Try.prog.varReadable ·)) = true := by kernel_rfl
theorem fact19 : (Try.f16.resultTypes.all (fun t => Try.prog.readableRec t && decide (t < Try.prog.types.size))) = true := by kernel_rfl
theorem fact20 : ((Rows.fnExactExtractRow.ifacesOut == Try.f16.resultTypes.toList.any (Try.prog.ifacesRec ·))) = true := by kernel_rfl
theorem fact21 : ((Rows.fnExactExtractRow.loopsOut == Try.f16.resultTypes.toList.any (Try.prog.loopsFrom ·))) = true := by kernel_rfl
theorem fact22 : ((Rows.fnExactExtractRow.plainKeys == Try.prog.plainKeys)) = true := by kernel_rfl
theorem fact23 : (Rows.fnExactExtractRow.shortTexts.isNone) = true := by kernel_rfl
theorem fact24 : (Try.prog.stopsHeard) = true := by kernel_rfl
theorem fact25 : (Try.prog.mayEnter) = true := Close.may_enter Try.prog _ words (by kernel_rfl) (by kernel_rfl) (by kernel_rfl)
theorem fact26 : ((Rows.fnExactExtractRow.lifted == Try.prog.liftsFinal)) = true := by rw [Close.lifts_final Try.prog _ words]; rfl
theorem fact27 : ((Try.prog.make == some Rows.fnExactExtractRow.make)) = true := by rw [Close.make_cut Try.prog _ words]; rfl
theorem fact28 : ((Rows.fnExactExtractRow.kinds == (if Rows.fnExactExtractRow.domain.isEmpty then [] else Try.f16.params.toList.map fun t => match Try.prog.underlying t with | some (.int k) => some k | _ => none))) = true := by kernel_rfl
theorem fact29 : ((Rows.fnExactExtractRow.pinned == Rows.fnExactExtractRow.pinnedBy)) = true := by kernel_rfl
theorem fact30 : ((Rows.fnExactExtractRow.veiled == (Try.f16.params.toList ++ Rows.fnExactExtractSpec.plain.varTypes Try.prog ++ Try.f16.resultTypes.toList).any (Try.prog.veiledRec ·))) = true := by kernel_rfl
theorem fact31 : (Rows.fnExactExtractRow.veiledFits Try.prog Try.f16.params.toList (Try.f16.params.toList ++ Rows.fnExactExtractSpec.plain.varTypes Try.prog ++ Try.f16.resultTypes.toList)) = true := by kernel_rfl
set_option maxRecDepth 100000 in
theorem facts : joinedFacts Try.prog 16 Try.f16 Rows.fnExactExtractSpec Rows.fnExactExtractRow = true := by
  unfold joinedFacts
  simp only [Bool.and_eq_true]
  exact ⟨⟨⟨⟨⟨⟨⟨⟨⟨⟨⟨⟨⟨⟨⟨⟨⟨⟨⟨⟨⟨⟨⟨⟨⟨⟨⟨⟨⟨⟨⟨fact0, fact1⟩, fact2⟩, fact3⟩, fact4⟩, fact5⟩, fact6⟩, fact7⟩, fact8⟩, fact9⟩, fact10⟩, fact11⟩, fact12⟩, fact13⟩, fact14⟩, fact15⟩, fact16⟩, fact17⟩, fact18⟩, fact19⟩, fact20⟩, fact21⟩, fact22⟩, fact23⟩, fact24⟩, fact25⟩, fact26⟩, fact27⟩, fact28⟩, fact29⟩, fact30⟩, fact31⟩
theorem named : Try.prog.funcNamed Rows.fnExactExtractRow.func = some 16 := by kernel_rfl
theorem inst : Try.f16.isInstance Try.prog Rows.fnExactExtractRow.origin Rows.fnExactExtractRow.targs := of_decide_eq_true (by kernel_rfl)
theorem wrap : Try.f16.isWrapper Try.prog Rows.fnExactExtractRow.wrapper Rows.fnExactExtractRow.mainSum := by unfold Func.isWrapper; first | (rw [if_pos (by decide +kernel)]; kernel_rfl) | (rw [if_neg (by decide +kernel)]; exact ⟨rfl, rfl⟩)
theorem over : Rows.fnExactExtractRow.holds Try.pinned (OpenSpec.ofChange Rows.fnExactExtractSpec) :=
  OpenClaim.holds_of_wide 16 Try.f16 rfl rfl rfl rfl rfl rfl rfl ⟨rfl, rfl, rfl, rfl, rfl⟩ rfl rfl rfl rfl rfl named Try.func16 facts inst wrap
    (fun os started H enc _ => lifted os started H enc)
theorem proved : Rows.FnExactExtractSaid := over
#print axioms proved
end Go.Proofs.Ytakblgcheakbnaa.fnExactExtract
namespace Go.Proofs.Ytakblgcheakbnaa
/-- The row, under a short name, for the claim. -/
theorem fnExactExtract_holds : Rows.FnExactExtractSaid := fnExactExtract.proved
end Go.Proofs.Ytakblgcheakbnaa
