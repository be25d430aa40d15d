/- The row of FnExactAllMatches, for every input; its conditions are those of the given row alone. -/
import Derived.Test.YtakblgcheakbnaaRows
import Derived.Test.YtakblgcheakbnaaPFnExactAllMatchesx16
import Derived.Test.YtakblgcheakbnaaRdFnExactAllMatches
import Derived.Test.YtakblgcheakbnaaPureFnExactAllMatches
import Derived.WalkKit
import Derived.Test.YtakblgcheakbnaaVFnExactAllMatchesa
import Derived.ProofKit
import Derived.OpenShut
import Derived.ShutString
import Derived.ChangeOld
import Derived.Below
import Derived.SizedLaws
namespace Go.Proofs.Ytakblgcheakbnaa.fnExactAllMatches
open Go.ChangeShapes Go.WideShapes Go.ChangeAt Go.RowKit
open Go.ChangeMaps (open_string shut_string)
set_option linter.unusedVariables false
theorem own : ownKnob Try.prog.godebug = none := by kernel_rfl
theorem laidOut : laidOutB Try.prog = true := by kernel_rfl
set_option maxRecDepth 100000 in
theorem lifted (os : Os) (started : os.Started) (H : Type) (enc : TypeId × Value → H) :
  ReturnsInHanded {} Try.checked os 4 .any (Rows.fnExactAllMatchesSpec.pre6 enc Try.prog Try.f4 Rows.fnExactAllMatchesRow.domain false) (Rows.fnExactAllMatchesSpec.post enc Try.prog Try.f4 false true false false) := by
 refine returnsInHanded_of_change_sized (C := Try.checked) own started (by kernel_rfl) Try.func4
  (ChangeSpec.witness6 (enc := enc) (C := Try.checked) false ⟨#[], #[.agg #[.slice none 0 0, .slice none 0 0], .slice none 0 0], []⟩ 8 (by kernel_rfl) (by kernel_rfl) (by kernel_rfl) (by kernel_rfl)) ?_
 intro W base args ds gs before hval0 hW hcnd hsz0 _
 have hval : ∀ (j : Nat) t v, Try.f4.params[j]? = some t → args[j]? = some v → Value.okWide Try.prog W .any base t v := hval0
 have hW' := hW
 obtain ⟨p, q, hA0, hV, rfl, hfz, hnd⟩ := hW
 have hA : DataW.TrodAll enc Try.prog W 0 (fun _ => true) true Try.f4.params.toList args.toList ds p := hA0
 rw [Try.params4] at hA hval
 obtain ⟨v0, vs0, d0, ds0, p0, q0, hargs, rfl, rfl, h0, r0⟩ := trodAll_cons hA
 obtain ⟨v1, vs1, d1, ds1, p1, q1, rfl, rfl, rfl, h1, r1⟩ := trodAll_cons r0
 obtain ⟨rfl, rfl, rfl⟩ := trodAll_nil r1
 obtain rfl : args = #[v0, v1] := by cases args; simp_all
 obtain ⟨rfl, rfl⟩ := trodVars_none hV
 have k0 := h0
 have lt0 : ∀ x ∈ p0, x.block < W.heap.size := by obtain ⟨m, hm⟩ := k0; exact DataW.trod_lt m _ _ _ hm
 obtain ⟨⟨cl0⟩, rfl, _⟩ := okWide_struct Try.underlying25 (hval 0 25 v0 rfl rfl)
 obtain ⟨x0, kk0, ok0⟩ := Open.of_trod RdFnExactAllMatches.reads25 h0
 obtain ⟨A0_0, c0_0, A0_1, c0_1, e0, l0_0, g0_0, l0_1, g0_1⟩ := PFnExactAllMatches.k25_open kk0
 obtain rfl : cl0 = _ := e0
 have k1 := h1
 have lt1 : ∀ x ∈ p1, x.block < W.heap.size := by obtain ⟨m, hm⟩ := k1; exact DataW.trod_lt m _ _ _ hm
 obtain ⟨a1, len1, cap1, rfl⟩ := okWide_slice Try.underlying26 (hval 1 26 v1 rfl rfl)
 obtain ⟨l1, kk1, ok1⟩ := Open.of_trod (Open.reads_slice Try.underlying26 (by kernel_rfl) RdFnExactAllMatches.reads98) h1
 obtain ⟨A1, c1, e1, n1, g1⟩ := Open.one_slice (c := .slice a1 len1 cap1) kk1
 cases e1
 clear hA0 hval0 hsz0
 obtain ⟨k, hp⟩ := Pure.FnExactAllMatches x0 l1 ok0 g0_0.2.1 g0_1.2.1 g1.2.1 ok1
 refine (PFnExactAllMatches.laws_FnExactAllMatches.calls k _ _ x0.f0 _ _ x0.f1 _ _ l1 true W g0_0 l0_0 g0_1 l0_1 g1 n1 hp).mono fun e W' ⟨he, bel⟩ => ?_
 subst he
 exact ⟨_, rfl, _, _, _, [], _, [], hW', trodAll_mk1 (shut_bool Try.underlying4 _), (trodAll_cons_mk (Below.trod laidOut (by kernel_rfl) (of_decide_eq_true (by kernel_rfl)) k0 bel lt0) (trodAll_cons_mk (Below.trod laidOut (by kernel_rfl) (of_decide_eq_true (by kernel_rfl)) k1 bel lt1) trodAll_mk0)), rfl, bel.frame _, fun h => by cases h⟩
def T : List (Nat × List Nat) := [(4, [17, 18, 20, 21, 30, 20, 21, 31, 32, 20, 24, 21, 25, 26, 27, 32, 33, 34, 20, 21, 31, 32, 34]), (17, [51, 74]), (51, [111]), (111, [74]), (74, []), (18, []), (20, [53, 54]), (53, [113]), (113, [54]), (54, []), (21, [78]), (78, []), (30, [35, 75, 84]), (35, [87, 88, 89]), (87, [144, 145]), (144, [166]), (166, [96]), (96, []), (145, [96]), (88, [96]), (89, [146]), (146, []), (75, [129]), (129, [96, 166]), (84, [107, 77]), (107, []), (77, [139, 138, 140]), (139, []), (138, [140, 160, 138, 172]), (140, []), (160, [166, 181]), (181, [166, 181]), (172, [146]), (31, [79, 36, 85]), (79, [127]), (127, [164]), (164, [99, 174, 175, 175, 183]), (99, []), (174, [187]), (187, [99]), (175, []), (183, []), (36, [90, 91, 93, 92, 94]), (90, [147]), (147, [174, 175, 176, 92]), (176, [99]), (92, [150]), (150, []), (91, [148, 149, 92]), (148, [99]), (149, []), (93, []), (94, [151]), (151, []), (85, [108, 81, 82]), (108, []), (81, []), (82, [142, 143, 141]), (142, []), (143, [114]), (114, []), (141, [173]), (173, [186, 141]), (186, [173]), (32, [86]), (86, [46]), (46, []), (24, [56, 46]), (56, [117]), (117, [46]), (25, [83]), (83, []), (26, [57, 47]), (57, [47]), (47, []), (27, []), (33, [47]), (34, [48]), (48, [])]
def CL : List Nat := [4, 17, 51, 111, 74, 18, 20, 53, 113, 54, 21, 78, 30, 35, 87, 144, 166, 96, 145, 88, 89, 146, 75, 129, 84, 107, 77, 139, 138, 140, 160, 181, 172, 31, 79, 127, 164, 99, 174, 187, 175, 183, 36, 90, 147, 176, 92, 150, 91, 148, 149, 93, 94, 151, 85, 108, 81, 82, 142, 143, 114, 141, 173, 186, 32, 86, 46, 24, 56, 117, 25, 83, 26, 57, 47, 27, 33, 34, 48]
def SL : List Nat := [4, 17, 18, 20, 21, 24, 25, 26, 27, 30, 31, 32, 33, 34, 35, 36, 46, 47, 48, 51, 53, 54, 56, 57, 74, 75, 77, 78, 79, 81, 82, 83, 84, 85, 86, 87, 88, 89, 90, 91, 92, 93, 94, 96, 99, 107, 108, 111, 113, 114, 117, 127, 129, 138, 139, 140, 141, 142, 143, 144, 145, 146, 147, 148, 149, 150, 151, 160, 164, 166, 172, 173, 174, 175, 176, 181, 183, 186, 187]
theorem tab4 : (Close.tab T 4 == Close.leads Try.prog 4) = true := by kernel_rfl
theorem tab17 : (Close.tab T 17 == Close.leads Try.prog 17) = true := by kernel_rfl
theorem tab51 : (Close.tab T 51 == Close.leads Try.prog 51) = true := by kernel_rfl
theorem tab111 : (Close.tab T 111 == Close.leads Try.prog 111) = true := by kernel_rfl
theorem tab74 : (Close.tab T 74 == Close.leads Try.prog 74) = true := by kernel_rfl
theorem tab18 : (Close.tab T 18 == Close.leads Try.prog 18) = true := by kernel_rfl
theorem tab20 : (Close.tab T 20 == Close.leads Try.prog 20) = true := by kernel_rfl
theorem tab53 : (Close.tab T 53 == Close.leads Try.prog 53) = true := by kernel_rfl
theorem tab113 : (Close.tab T 113 == Close.leads Try.prog 113) = true := by kernel_rfl
theorem tab54 : (Close.tab T 54 == Close.leads Try.prog 54) = true := by kernel_rfl
theorem tab21 : (Close.tab T 21 == Close.leads Try.prog 21) = true := by kernel_rfl
theorem tab78 : (Close.tab T 78 == Close.leads Try.prog 78) = true := by kernel_rfl
theorem tab30 : (Close.tab T 30 == Close.leads Try.prog 30) = true := by kernel_rfl
theorem tab35 : (Close.tab T 35 == Close.leads Try.prog 35) = true := by kernel_rfl
theorem tab87 : (Close.tab T 87 == Close.leads Try.prog 87) = true := by kernel_rfl
theorem tab144 : (Close.tab T 144 == Close.leads Try.prog 144) = true := by kernel_rfl
theorem tab166 : (Close.tab T 166 == Close.leads Try.prog 166) = true := by kernel_rfl
theorem tab96 : (Close.tab T 96 == Close.leads Try.prog 96) = true := by kernel_rfl
theorem tab145 : (Close.tab T 145 == Close.leads Try.prog 145) = true := by kernel_rfl
theorem tab88 : (Close.tab T 88 == Close.leads Try.prog 88) = true := by kernel_rfl
theorem tab89 : (Close.tab T 89 == Close.leads Try.prog 89) = true := by kernel_rfl
theorem tab146 : (Close.tab T 146 == Close.leads Try.prog 146) = true := by kernel_rfl
theorem tab75 : (Close.tab T 75 == Close.leads Try.prog 75) = true := by kernel_rfl
theorem tab129 : (Close.tab T 129 == Close.leads Try.prog 129) = true := by kernel_rfl
theorem tab84 : (Close.tab T 84 == Close.leads Try.prog 84) = true := by kernel_rfl
theorem tab107 : (Close.tab T 107 == Close.leads Try.prog 107) = true := by kernel_rfl
theorem tab77 : (Close.tab T 77 == Close.leads Try.prog 77) = true := by kernel_rfl
theorem tab139 : (Close.tab T 139 == Close.leads Try.prog 139) = true := by kernel_rfl
theorem tab138 : (Close.tab T 138 == Close.leads Try.prog 138) = true := by kernel_rfl
theorem tab140 : (Close.tab T 140 == Close.leads Try.prog 140) = true := by kernel_rfl
theorem tab160 : (Close.tab T 160 == Close.leads Try.prog 160) = true := by kernel_rfl
theorem tab181 : (Close.tab T 181 == Close.leads Try.prog 181) = true := by kernel_rfl
theorem tab172 : (Close.tab T 172 == Close.leads Try.prog 172) = true := by kernel_rfl
theorem tab31 : (Close.tab T 31 == Close.leads Try.prog 31) = true := by kernel_rfl
theorem tab79 : (Close.tab T 79 == Close.leads Try.prog 79) = true := by kernel_rfl
theorem tab127 : (Close.tab T 127 == Close.leads Try.prog 127) = true := by kernel_rfl
theorem tab164 : (Close.tab T 164 == Close.leads Try.prog 164) = true := by kernel_rfl
theorem tab99 : (Close.tab T 99 == Close.leads Try.prog 99) = true := by kernel_rfl
theorem tab174 : (Close.tab T 174 == Close.leads Try.prog 174) = true := by kernel_rfl
theorem tab187 : (Close.tab T 187 == Close.leads Try.prog 187) = true := by kernel_rfl
theorem tab175 : (Close.tab T 175 == Close.leads Try.prog 175) = true := by kernel_rfl
theorem tab183 : (Close.tab T 183 == Close.leads Try.prog 183) = true := by kernel_rfl
theorem tab36 : (Close.tab T 36 == Close.leads Try.prog 36) = true := by kernel_rfl
theorem tab90 : (Close.tab T 90 == Close.leads Try.prog 90) = true := by kernel_rfl
theorem tab147 : (Close.tab T 147 == Close.leads Try.prog 147) = true := by kernel_rfl
theorem tab176 : (Close.tab T 176 == Close.leads Try.prog 176) = true := by kernel_rfl
theorem tab92 : (Close.tab T 92 == Close.leads Try.prog 92) = true := by kernel_rfl
theorem tab150 : (Close.tab T 150 == Close.leads Try.prog 150) = true := by kernel_rfl
theorem tab91 : (Close.tab T 91 == Close.leads Try.prog 91) = true := by kernel_rfl
theorem tab148 : (Close.tab T 148 == Close.leads Try.prog 148) = true := by kernel_rfl
theorem tab149 : (Close.tab T 149 == Close.leads Try.prog 149) = true := by kernel_rfl
theorem tab93 : (Close.tab T 93 == Close.leads Try.prog 93) = true := by kernel_rfl
theorem tab94 : (Close.tab T 94 == Close.leads Try.prog 94) = true := by kernel_rfl
theorem tab151 : (Close.tab T 151 == Close.leads Try.prog 151) = true := by kernel_rfl
theorem tab85 : (Close.tab T 85 == Close.leads Try.prog 85) = true := by kernel_rfl
theorem tab108 : (Close.tab T 108 == Close.leads Try.prog 108) = true := by kernel_rfl
theorem tab81 : (Close.tab T 81 == Close.leads Try.prog 81) = true := by kernel_rfl
theorem tab82 : (Close.tab T 82 == Close.leads Try.prog 82) = true := by kernel_rfl
theorem tab142 : (Close.tab T 142 == Close.leads Try.prog 142) = true := by kernel_rfl
theorem tab143 : (Close.tab T 143 == Close.leads Try.prog 143) = true := by kernel_rfl
theorem tab114 : (Close.tab T 114 == Close.leads Try.prog 114) = true := by kernel_rfl
theorem tab141 : (Close.tab T 141 == Close.leads Try.prog 141) = true := by kernel_rfl
theorem tab173 : (Close.tab T 173 == Close.leads Try.prog 173) = true := by kernel_rfl
theorem tab186 : (Close.tab T 186 == Close.leads Try.prog 186) = true := by kernel_rfl
theorem tab32 : (Close.tab T 32 == Close.leads Try.prog 32) = true := by kernel_rfl
theorem tab86 : (Close.tab T 86 == Close.leads Try.prog 86) = true := by kernel_rfl
theorem tab46 : (Close.tab T 46 == Close.leads Try.prog 46) = true := by kernel_rfl
theorem tab24 : (Close.tab T 24 == Close.leads Try.prog 24) = true := by kernel_rfl
theorem tab56 : (Close.tab T 56 == Close.leads Try.prog 56) = true := by kernel_rfl
theorem tab117 : (Close.tab T 117 == Close.leads Try.prog 117) = true := by kernel_rfl
theorem tab25 : (Close.tab T 25 == Close.leads Try.prog 25) = true := by kernel_rfl
theorem tab83 : (Close.tab T 83 == Close.leads Try.prog 83) = true := by kernel_rfl
theorem tab26 : (Close.tab T 26 == Close.leads Try.prog 26) = true := by kernel_rfl
theorem tab57 : (Close.tab T 57 == Close.leads Try.prog 57) = true := by kernel_rfl
theorem tab47 : (Close.tab T 47 == Close.leads Try.prog 47) = true := by kernel_rfl
theorem tab27 : (Close.tab T 27 == Close.leads Try.prog 27) = true := by kernel_rfl
theorem tab33 : (Close.tab T 33 == Close.leads Try.prog 33) = true := by kernel_rfl
theorem tab34 : (Close.tab T 34 == Close.leads Try.prog 34) = true := by kernel_rfl
theorem tab48 : (Close.tab T 48 == Close.leads Try.prog 48) = true := by kernel_rfl
theorem tabOK : (CL.all fun g => Close.tab T g == Close.leads Try.prog g) = true := by
 unfold CL
 simp only [List.all_cons, List.all_nil, Bool.and_true, Bool.and_eq_true]
 exact ⟨tab4, tab17, tab51, tab111, tab74, tab18, tab20, tab53, tab113, tab54, tab21, tab78, tab30, tab35, tab87, tab144, tab166, tab96, tab145, tab88, tab89, tab146, tab75, tab129, tab84, tab107, tab77, tab139, tab138, tab140, tab160, tab181, tab172, tab31, tab79, tab127, tab164, tab99, tab174, tab187, tab175, tab183, tab36, tab90, tab147, tab176, tab92, tab150, tab91, tab148, tab149, tab93, tab94, tab151, tab85, tab108, tab81, tab82, tab142, tab143, tab114, tab141, tab173, tab186, tab32, tab86, tab46, tab24, tab56, tab117, tab25, tab83, tab26, tab57, tab47, tab27, tab33, tab34, tab48⟩
theorem closed : Try.prog.closure 4 = CL := Close.closure_eq Try.prog 4 T CL SL 115 tabOK (by kernel_rfl) (by decide) (by kernel_rfl) (by decide)
def HC : List Nat := [104, 97, 114, 110, 101, 115, 115, 32, 51, 98, 102, 98, 51, 97, 98, 102, 97, 56, 57, 102, 101, 49, 52, 56, 51, 48, 56, 97, 48, 57, 99, 57, 102, 48, 99, 49, 101, 51, 97, 101, 52, 49, 51, 49, 97, 56, 48, 48, 57, 101, 98, 55, 53, 55, 53, 51, 54, 49, 57, 49, 55, 51, 56, 51, 54, 55, 100, 54, 52, 51, 48, 99, 32, 99, 117, 116, 32, 97, 116, 32, 108, 111, 111, 112, 46, 101, 120, 97, 109, 112, 108, 101, 47, 103, 48, 48, 54, 57, 52, 47, 108, 97, 119, 115, 46, 70, 110, 69, 120, 97, 99, 116, 77, 97, 116, 99, 104, 65, 116, 32, 108, 111, 111, 112, 46, 101, 120, 97, 109, 112, 108, 101, 47, 103, 48, 48, 54, 57, 52, 47, 108, 97, 119, 115, 46, 70, 110, 69, 120, 97, 99, 116, 65, 108, 108, 77, 97, 116, 99, 104, 101, 115, 32, 108, 111, 111, 112, 46, 101, 120, 97, 109, 112, 108, 101, 47, 103, 48, 48, 54, 57, 52, 47, 108, 97, 119, 115, 46, 70, 110, 69, 120, 97, 99, 116, 71, 111, 111, 100, 71, 114, 97, 112, 104, 32, 108, 111, 111, 112, 46, 101, 120, 97, 109, 112, 108, 101, 47, 103, 48, 48, 54, 57, 52, 47, 108, 97, 119, 115, 46, 70, 110, 69, 120, 97, 99, 116, 68, 114, 111, 112, 76, 105, 110, 107, 32, 108, 111, 111, 112, 46, 101, 120, 97, 109, 112, 108, 101, 47, 103, 48, 48, 54, 57, 52, 47, 108, 97, 119, 115, 46, 70, 110, 69, 120, 97, 99, 116, 67, 108, 97, 115, 115, 101, 115, 73, 110, 32, 108, 111, 111, 112, 46, 101, 120, 97, 109, 112, 108, 101, 47, 103, 48, 48, 54, 57, 52, 47, 108, 97, 119, 115, 46, 70, 110, 69, 120, 97, 99, 116, 78, 111, 100, 101, 115, 73, 110, 32, 108, 111, 111, 112, 46, 101, 120, 97, 109, 112, 108, 101, 47, 103, 48, 48, 54, 57, 52, 47, 108, 97, 119, 115, 46, 70, 110, 69, 120, 97, 99, 116, 67, 108, 111, 115, 101, 100, 32, 108, 111, 111, 112, 46, 101, 120, 97, 109, 112, 108, 101, 47, 103, 48, 48, 54, 57, 52, 47, 108, 97, 119, 115, 46, 70, 110, 69, 120, 97, 99, 116, 67, 104, 111, 115, 101, 110, 73, 110, 32, 108, 111, 111, 112, 46, 101, 120, 97, 109, 112, 108, 101, 47, 103, 48, 48, 54, 57, 52, 47, 108, 97, 119, 115, 46, 70, 110, 69, 120, 97, 99, 116, 66, 101, 115, 116, 67, 111, 115, 116, 115, 32, 108, 111, 111, 112, 46, 101, 120, 97, 109, 112, 108, 101, 47, 103, 48, 48, 54, 57, 52, 47, 108, 97, 119, 115, 46, 70, 110, 69, 120, 97, 99, 116, 73, 115, 77, 97, 116, 99, 104, 32, 108, 111, 111, 112, 46, 101, 120, 97, 109, 112, 108, 101, 47, 103, 48, 48, 54, 57, 52, 47, 108, 97, 119, 115, 46, 70, 110, 69, 120, 97, 99, 116, 70, 105, 110, 100, 84, 101, 114, 109, 32, 108, 111, 111, 112, 46, 101, 120, 97, 109, 112, 108, 101, 47, 103, 48, 48, 54, 57, 52, 47, 108, 97, 119, 115, 46, 70, 110, 69, 120, 97, 99, 116, 72, 111, 108, 100, 115, 84, 101, 114, 109, 32, 108, 111, 111, 112, 46, 101, 120, 97, 109, 112, 108, 101, 47, 103, 48, 48, 54, 57, 52, 47, 108, 97, 119, 115, 46, 70, 110, 69, 120, 97, 99, 116, 77, 101, 114, 103, 101, 32, 108, 111, 111, 112, 46, 101, 120, 97, 109, 112, 108, 101, 47, 103, 48, 48, 54, 57, 52, 47, 108, 97, 119, 115, 46, 70, 110, 69, 120, 97, 99, 116, 69, 120, 116, 114, 97, 99, 116]
theorem head : Try.prog.initOrder.toList = HC.map Char.ofNat := by
 have h : Try.prog.initOrder = String.ofList (HC.map Char.ofNat) := by kernel_rfl
 rw [h, String.toList_ofList]
def WL : List (List Nat) := [[97, 116], [108, 111, 111, 112, 46, 101, 120, 97, 109, 112, 108, 101, 47, 103, 48, 48, 54, 57, 52, 47, 108, 97, 119, 115, 46, 70, 110, 69, 120, 97, 99, 116, 77, 97, 116, 99, 104, 65, 116], [108, 111, 111, 112, 46, 101, 120, 97, 109, 112, 108, 101, 47, 103, 48, 48, 54, 57, 52, 47, 108, 97, 119, 115, 46, 70, 110, 69, 120, 97, 99, 116, 65, 108, 108, 77, 97, 116, 99, 104, 101, 115], [108, 111, 111, 112, 46, 101, 120, 97, 109, 112, 108, 101, 47, 103, 48, 48, 54, 57, 52, 47, 108, 97, 119, 115, 46, 70, 110, 69, 120, 97, 99, 116, 71, 111, 111, 100, 71, 114, 97, 112, 104], [108, 111, 111, 112, 46, 101, 120, 97, 109, 112, 108, 101, 47, 103, 48, 48, 54, 57, 52, 47, 108, 97, 119, 115, 46, 70, 110, 69, 120, 97, 99, 116, 68, 114, 111, 112, 76, 105, 110, 107], [108, 111, 111, 112, 46, 101, 120, 97, 109, 112, 108, 101, 47, 103, 48, 48, 54, 57, 52, 47, 108, 97, 119, 115, 46, 70, 110, 69, 120, 97, 99, 116, 67, 108, 97, 115, 115, 101, 115, 73, 110], [108, 111, 111, 112, 46, 101, 120, 97, 109, 112, 108, 101, 47, 103, 48, 48, 54, 57, 52, 47, 108, 97, 119, 115, 46, 70, 110, 69, 120, 97, 99, 116, 78, 111, 100, 101, 115, 73, 110], [108, 111, 111, 112, 46, 101, 120, 97, 109, 112, 108, 101, 47, 103, 48, 48, 54, 57, 52, 47, 108, 97, 119, 115, 46, 70, 110, 69, 120, 97, 99, 116, 67, 108, 111, 115, 101, 100], [108, 111, 111, 112, 46, 101, 120, 97, 109, 112, 108, 101, 47, 103, 48, 48, 54, 57, 52, 47, 108, 97, 119, 115, 46, 70, 110, 69, 120, 97, 99, 116, 67, 104, 111, 115, 101, 110, 73, 110], [108, 111, 111, 112, 46, 101, 120, 97, 109, 112, 108, 101, 47, 103, 48, 48, 54, 57, 52, 47, 108, 97, 119, 115, 46, 70, 110, 69, 120, 97, 99, 116, 66, 101, 115, 116, 67, 111, 115, 116, 115], [108, 111, 111, 112, 46, 101, 120, 97, 109, 112, 108, 101, 47, 103, 48, 48, 54, 57, 52, 47, 108, 97, 119, 115, 46, 70, 110, 69, 120, 97, 99, 116, 73, 115, 77, 97, 116, 99, 104], [108, 111, 111, 112, 46, 101, 120, 97, 109, 112, 108, 101, 47, 103, 48, 48, 54, 57, 52, 47, 108, 97, 119, 115, 46, 70, 110, 69, 120, 97, 99, 116, 70, 105, 110, 100, 84, 101, 114, 109], [108, 111, 111, 112, 46, 101, 120, 97, 109, 112, 108, 101, 47, 103, 48, 48, 54, 57, 52, 47, 108, 97, 119, 115, 46, 70, 110, 69, 120, 97, 99, 116, 72, 111, 108, 100, 115, 84, 101, 114, 109], [108, 111, 111, 112, 46, 101, 120, 97, 109, 112, 108, 101, 47, 103, 48, 48, 54, 57, 52, 47, 108, 97, 119, 115, 46, 70, 110, 69, 120, 97, 99, 116, 77, 101, 114, 103, 101], [108, 111, 111, 112, 46, 101, 120, 97, 109, 112, 108, 101, 47, 103, 48, 48, 54, 57, 52, 47, 108, 97, 119, 115, 46, 70, 110, 69, 120, 97, 99, 116, 69, 120, 116, 114, 97, 99, 116]]
theorem words : behindMainWord (wordsSigns Try.prog.initOrder.toList) = "cut".toList :: WL.map (fun l => l.map Char.ofNat) := by rw [head]; kernel_rfl
theorem fact0 : (Rows.fnExactAllMatchesRow.wf (OpenSpec.ofChange Rows.fnExactAllMatchesSpec)) = true := by kernel_rfl
theorem fact1 : (laidOutB Try.prog) = true := by kernel_rfl
theorem fact2 : (mapsRowed Try.prog) = true := by kernel_rfl
theorem fact3 : (Try.f4.params.all (Try.prog.readableRec ·)) = true := by kernel_rfl
theorem fact4 : (namedTie Try.prog Rows.fnExactAllMatchesRow.named Rows.fnExactAllMatchesSpec.vars) = true := by kernel_rfl
theorem fact5 : ((Rows.fnExactAllMatchesRow.stops == [])) = true := by kernel_rfl
theorem fact6 : ((Try.prog.stops == [])) = true := by kernel_rfl
theorem fact7 : ((Rows.fnExactAllMatchesRow.knobs == [])) = true := by kernel_rfl
theorem fact8 : ((Try.prog.stopKnobs == [])) = true := by kernel_rfl
theorem fact9 : ((Rows.fnExactAllMatchesRow.inPlace == Try.prog.inPlace 4)) = true := by unfold Program.inPlace; rw [closed]; kernel_rfl
theorem fact10 : ((Rows.fnExactAllMatchesRow.unfollowed == Try.prog.unfollowed 4)) = true := by unfold Program.unfollowed; rw [closed]; kernel_rfl
theorem fact11 : ((Rows.fnExactAllMatchesRow.recurses == Try.prog.recurses 4)) = true := by rw [Close.recurses_true Try.prog 4 (by unfold Program.unfollowed; rw [closed]; kernel_rfl)]; rfl
theorem fact12 : ((Rows.fnExactAllMatchesRow.named == Try.prog.varsNamed 4)) = true := by unfold Program.varsNamed; rw [closed]; kernel_rfl
theorem fact13 : ((Rows.fnExactAllMatchesRow.maps == (Try.f4.params.toList ++ Rows.fnExactAllMatchesSpec.plain.varTypes Try.prog).any (Try.prog.mapsRec ·))) = true := by kernel_rfl
theorem fact14 : ((Rows.fnExactAllMatchesRow.ifaces == (Try.f4.params.toList ++ Rows.fnExactAllMatchesSpec.plain.varTypes Try.prog).any (Try.prog.ifacesRec ·))) = true := by kernel_rfl
theorem fact15 : ((Rows.fnExactAllMatchesRow.mapsOut == Try.prog.mapsAmong Try.f4.resultTypes.toList)) = true := by kernel_rfl
theorem fact16 : ((Rows.fnExactAllMatchesRow.loops == (Try.f4.params.toList ++ Rows.fnExactAllMatchesSpec.plain.varTypes Try.prog).any (Try.prog.loopsFrom ·))) = true := by kernel_rfl
theorem fact17 : ((Rows.fnExactAllMatchesRow.wideKeys == (Try.f4.params.toList ++ Rows.fnExactAllMatchesSpec.plain.varTypes Try.prog ++ Try.f4.resultTypes.toList).any (Try.prog.wideKeysFrom ·))) = true := by kernel_rfl
theorem fact18 : (Rows.fnExactAllMatchesSpec.vars.all (Try.prog.varReadable ·)) = true := by kernel_rfl
theorem fact19 : (Try.f4.resultTypes.all (fun t => Try.prog.readableRec t && decide (t < Try.prog.types.size))) = true := by kernel_rfl
theorem fact20 : ((Rows.fnExactAllMatchesRow.ifacesOut == Try.f4.resultTypes.toList.any (Try.prog.ifacesRec ·))) = true := by kernel_rfl
theorem fact21 : ((Rows.fnExactAllMatchesRow.loopsOut == Try.f4.resultTypes.toList.any (Try.prog.loopsFrom ·))) = true := by kernel_rfl
theorem fact22 : ((Rows.fnExactAllMatchesRow.plainKeys == Try.prog.plainKeys)) = true := by kernel_rfl
theorem fact23 : (Rows.fnExactAllMatchesRow.shortTexts.isNone) = true := by kernel_rfl
theorem fact24 : (Try.prog.stopsHeard) = true := by kernel_rfl
theorem fact25 : (Try.prog.mayEnter) = true := Close.may_enter Try.prog _ words (by kernel_rfl) (by kernel_rfl) (by kernel_rfl)
theorem fact26 : ((Rows.fnExactAllMatchesRow.lifted == Try.prog.liftsFinal)) = true := by rw [Close.lifts_final Try.prog _ words]; rfl
theorem fact27 : ((Try.prog.make == some Rows.fnExactAllMatchesRow.make)) = true := by rw [Close.make_cut Try.prog _ words]; rfl
theorem fact28 : ((Rows.fnExactAllMatchesRow.kinds == (if Rows.fnExactAllMatchesRow.domain.isEmpty then [] else Try.f4.params.toList.map fun t => match Try.prog.underlying t with | some (.int k) => some k | _ => none))) = true := by kernel_rfl
theorem fact29 : ((Rows.fnExactAllMatchesRow.pinned == Rows.fnExactAllMatchesRow.pinnedBy)) = true := by kernel_rfl
theorem fact30 : ((Rows.fnExactAllMatchesRow.veiled == (Try.f4.params.toList ++ Rows.fnExactAllMatchesSpec.plain.varTypes Try.prog ++ Try.f4.resultTypes.toList).any (Try.prog.veiledRec ·))) = true := by kernel_rfl
theorem fact31 : (Rows.fnExactAllMatchesRow.veiledFits Try.prog Try.f4.params.toList (Try.f4.params.toList ++ Rows.fnExactAllMatchesSpec.plain.varTypes Try.prog ++ Try.f4.resultTypes.toList)) = true := by kernel_rfl
set_option maxRecDepth 100000 in
theorem facts : joinedFacts Try.prog 4 Try.f4 Rows.fnExactAllMatchesSpec Rows.fnExactAllMatchesRow = true := by
 unfold joinedFacts
 simp only [Bool.and_eq_true]
 exact ⟨⟨⟨⟨⟨⟨⟨⟨⟨⟨⟨⟨⟨⟨⟨⟨⟨⟨⟨⟨⟨⟨⟨⟨⟨⟨⟨⟨⟨⟨⟨fact0, fact1⟩, fact2⟩, fact3⟩, fact4⟩, fact5⟩, fact6⟩, fact7⟩, fact8⟩, fact9⟩, fact10⟩, fact11⟩, fact12⟩, fact13⟩, fact14⟩, fact15⟩, fact16⟩, fact17⟩, fact18⟩, fact19⟩, fact20⟩, fact21⟩, fact22⟩, fact23⟩, fact24⟩, fact25⟩, fact26⟩, fact27⟩, fact28⟩, fact29⟩, fact30⟩, fact31⟩
theorem named : Try.prog.funcNamed Rows.fnExactAllMatchesRow.func = some 4 := by kernel_rfl
theorem inst : Try.f4.isInstance Try.prog Rows.fnExactAllMatchesRow.origin Rows.fnExactAllMatchesRow.targs := of_decide_eq_true (by kernel_rfl)
theorem wrap : Try.f4.isWrapper Try.prog Rows.fnExactAllMatchesRow.wrapper Rows.fnExactAllMatchesRow.mainSum := by unfold Func.isWrapper; first | (rw [if_pos (by decide +kernel)]; kernel_rfl) | (rw [if_neg (by decide +kernel)]; exact ⟨rfl, rfl⟩)
theorem over : Rows.fnExactAllMatchesRow.holds Try.pinned (OpenSpec.ofChange Rows.fnExactAllMatchesSpec) :=
 OpenClaim.holds_of_wide 4 Try.f4 rfl rfl rfl rfl rfl rfl rfl ⟨rfl, rfl, rfl, rfl, rfl⟩ rfl rfl rfl rfl rfl named Try.func4 facts inst wrap
  (fun os started H enc _ => lifted os started H enc)
theorem proved : Rows.FnExactAllMatchesSaid := over
#print axioms proved
end Go.Proofs.Ytakblgcheakbnaa.fnExactAllMatches
namespace Go.Proofs.Ytakblgcheakbnaa
/-- The row, under a short name, for the claim. -/
theorem fnExactAllMatches_holds : Rows.FnExactAllMatchesSaid := fnExactAllMatches.proved
end Go.Proofs.Ytakblgcheakbnaa
