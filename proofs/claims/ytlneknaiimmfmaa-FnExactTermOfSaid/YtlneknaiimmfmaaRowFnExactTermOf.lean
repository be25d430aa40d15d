/- The row of FnExactTermOf, for every input; its conditions are those of the given row alone. -/
import Derived.Test.YtlneknaiimmfmaaRows
import Derived.Test.YtlneknaiimmfmaaPFnExactTermOfx9
import Derived.Test.YtlneknaiimmfmaaRdFnExactTermOf
import Derived.Test.YtlneknaiimmfmaaPureFnExactTermOf
import Derived.WalkKit
import Derived.Test.YtlneknaiimmfmaaClose
import Derived.ProofKit
import Derived.OpenShut
import Derived.ShutString
import Derived.ChangeOld
import Derived.Below
import Derived.SizedLaws
namespace Go.Proofs.Ytlneknaiimmfmaa.fnExactTermOf
open Go.ChangeShapes Go.WideShapes Go.ChangeAt Go.RowKit
open Go.ChangeMaps (open_string shut_string)
set_option linter.unusedVariables false
theorem own : ownKnob Try.prog.godebug = none := by kernel_rfl
theorem laidOut : laidOutB Try.prog = true := by kernel_rfl
set_option maxRecDepth 100000 in
theorem lifted (os : Os) (started : os.Started) (H : Type) (enc : TypeId × Value → H) :
    ReturnsInHanded {} Try.checked os 19 .any (Rows.fnExactTermOfSpec.pre6 enc Try.prog Try.f19 Rows.fnExactTermOfRow.domain false) (Rows.fnExactTermOfSpec.post enc Try.prog Try.f19 false true false false) := by
  refine returnsInHanded_of_change_sized (C := Try.checked) own started (by kernel_rfl) Try.func19
    (ChangeSpec.witness6 (enc := enc) (C := Try.checked) false ⟨#[], #[.slice none 0 0], []⟩ 8 (by kernel_rfl) (by kernel_rfl) (by kernel_rfl) (by kernel_rfl)) ?_
  intro W base args ds gs before hval0 hW hcnd hsz0 _
  have hval : ∀ (j : Nat) t v, Try.f19.params[j]? = some t → args[j]? = some v → Value.okWide Try.prog W .any base t v := hval0
  have hW' := hW
  obtain ⟨p, q, hA0, hV, rfl, hfz, hnd⟩ := hW
  have hA : DataW.TrodAll enc Try.prog W 0 (fun _ => true) true Try.f19.params.toList args.toList ds p := hA0
  rw [Try.params19] at hA hval
  obtain ⟨v0, vs0, d0, ds0, p0, q0, hargs, rfl, rfl, h0, r0⟩ := trodAll_cons hA
  obtain ⟨rfl, rfl, rfl⟩ := trodAll_nil r0
  obtain rfl : args = #[v0] := by cases args; simp_all
  obtain ⟨rfl, rfl⟩ := trodVars_none hV
  have k0 := h0
  have lt0 : ∀ x ∈ p0, x.block < W.heap.size := by obtain ⟨m, hm⟩ := k0; exact DataW.trod_lt m _ _ _ hm
  obtain ⟨a0, len0, cap0, rfl⟩ := okWide_slice Try.underlying42 (hval 0 42 v0 rfl rfl)
  obtain ⟨l0, kk0, ok0⟩ := Open.of_trod (Open.reads_slice Try.underlying42 (by kernel_rfl) RdFnExactTermOf.reads100) h0
  obtain ⟨A0, c0, e0, n0, g0⟩ := Open.one_slice (c := .slice a0 len0 cap0) kk0
  cases e0
  clear hA0 hval0 hsz0
  obtain ⟨k, hp⟩ := Pure.FnExactTermOf l0 g0.2.1 ok0
  refine (PFnExactTermOf.laws_FnExactTermOf.calls k _ _ l0 true W g0 n0 hp).mono fun e W' ⟨he, bel⟩ => ?_
  subst he
  exact ⟨_, rfl, _, _, _, [], _, [], hW', trodAll_mk1 (shut_bool Try.underlying4 _), (trodAll_cons_mk (Below.trod laidOut (by kernel_rfl) (of_decide_eq_true (by kernel_rfl)) k0 bel lt0) trodAll_mk0), rfl, bel.frame _, fun h => by cases h⟩
def T : List (Nat × List Nat) := [(19, [36, 38, 72, 38, 73, 24, 38, 40, 74, 24, 34, 35, 38, 73, 24, 35]), (36, [87]), (87, [119]), (119, []), (38, [90]), (90, [121]), (121, []), (72, [37, 114, 114, 115, 100]), (37, [88, 89]), (88, [120]), (120, [75]), (75, []), (89, []), (114, []), (115, []), (100, [21]), (21, [75, 76]), (76, [75]), (73, [39, 101]), (39, [91, 92]), (91, [122, 123]), (122, [144]), (144, []), (123, [84]), (84, []), (92, [124]), (124, [145]), (145, [154, 154]), (154, []), (101, [23]), (23, [78]), (78, [83]), (83, [84, 116, 108, 108, 117]), (116, [143]), (143, [84]), (108, []), (117, []), (24, [79]), (79, []), (40, [93]), (93, [47]), (47, []), (74, [48]), (48, []), (34, []), (35, [])]
def CL : List Nat := [19, 36, 87, 119, 38, 90, 121, 72, 37, 88, 120, 75, 89, 114, 115, 100, 21, 76, 73, 39, 91, 122, 144, 123, 84, 92, 124, 145, 154, 101, 23, 78, 83, 116, 143, 108, 117, 24, 79, 40, 93, 47, 74, 48, 34, 35]
def SL : List Nat := [19, 21, 23, 24, 34, 35, 36, 37, 38, 39, 40, 47, 48, 72, 73, 74, 75, 76, 78, 79, 83, 84, 87, 88, 89, 90, 91, 92, 93, 100, 101, 108, 114, 115, 116, 117, 119, 120, 121, 122, 123, 124, 143, 144, 145, 154]
theorem tab19 : (Close.tab T 19 == Close.leads Try.prog 19) = true := by kernel_rfl
theorem tab36 : (Close.tab T 36 == Close.leads Try.prog 36) = true := by kernel_rfl
theorem tab87 : (Close.tab T 87 == Close.leads Try.prog 87) = true := by kernel_rfl
theorem tab119 : (Close.tab T 119 == Close.leads Try.prog 119) = true := by kernel_rfl
theorem tab38 : (Close.tab T 38 == Close.leads Try.prog 38) = true := by kernel_rfl
theorem tab90 : (Close.tab T 90 == Close.leads Try.prog 90) = true := by kernel_rfl
theorem tab121 : (Close.tab T 121 == Close.leads Try.prog 121) = true := by kernel_rfl
theorem tab72 : (Close.tab T 72 == Close.leads Try.prog 72) = true := by kernel_rfl
theorem tab37 : (Close.tab T 37 == Close.leads Try.prog 37) = true := by kernel_rfl
theorem tab88 : (Close.tab T 88 == Close.leads Try.prog 88) = true := by kernel_rfl
theorem tab120 : (Close.tab T 120 == Close.leads Try.prog 120) = true := by kernel_rfl
theorem tab75 : (Close.tab T 75 == Close.leads Try.prog 75) = true := by kernel_rfl
theorem tab89 : (Close.tab T 89 == Close.leads Try.prog 89) = true := by kernel_rfl
theorem tab114 : (Close.tab T 114 == Close.leads Try.prog 114) = true := by kernel_rfl
theorem tab115 : (Close.tab T 115 == Close.leads Try.prog 115) = true := by kernel_rfl
theorem tab100 : (Close.tab T 100 == Close.leads Try.prog 100) = true := by kernel_rfl
theorem tab21 : (Close.tab T 21 == Close.leads Try.prog 21) = true := by kernel_rfl
theorem tab76 : (Close.tab T 76 == Close.leads Try.prog 76) = true := by kernel_rfl
theorem tab73 : (Close.tab T 73 == Close.leads Try.prog 73) = true := by kernel_rfl
theorem tab39 : (Close.tab T 39 == Close.leads Try.prog 39) = true := by kernel_rfl
theorem tab91 : (Close.tab T 91 == Close.leads Try.prog 91) = true := by kernel_rfl
theorem tab122 : (Close.tab T 122 == Close.leads Try.prog 122) = true := by kernel_rfl
theorem tab144 : (Close.tab T 144 == Close.leads Try.prog 144) = true := by kernel_rfl
theorem tab123 : (Close.tab T 123 == Close.leads Try.prog 123) = true := by kernel_rfl
theorem tab84 : (Close.tab T 84 == Close.leads Try.prog 84) = true := by kernel_rfl
theorem tab92 : (Close.tab T 92 == Close.leads Try.prog 92) = true := by kernel_rfl
theorem tab124 : (Close.tab T 124 == Close.leads Try.prog 124) = true := by kernel_rfl
theorem tab145 : (Close.tab T 145 == Close.leads Try.prog 145) = true := by kernel_rfl
theorem tab154 : (Close.tab T 154 == Close.leads Try.prog 154) = true := by kernel_rfl
theorem tab101 : (Close.tab T 101 == Close.leads Try.prog 101) = true := by kernel_rfl
theorem tab23 : (Close.tab T 23 == Close.leads Try.prog 23) = true := by kernel_rfl
theorem tab78 : (Close.tab T 78 == Close.leads Try.prog 78) = true := by kernel_rfl
theorem tab83 : (Close.tab T 83 == Close.leads Try.prog 83) = true := by kernel_rfl
theorem tab116 : (Close.tab T 116 == Close.leads Try.prog 116) = true := by kernel_rfl
theorem tab143 : (Close.tab T 143 == Close.leads Try.prog 143) = true := by kernel_rfl
theorem tab108 : (Close.tab T 108 == Close.leads Try.prog 108) = true := by kernel_rfl
theorem tab117 : (Close.tab T 117 == Close.leads Try.prog 117) = true := by kernel_rfl
theorem tab24 : (Close.tab T 24 == Close.leads Try.prog 24) = true := by kernel_rfl
theorem tab79 : (Close.tab T 79 == Close.leads Try.prog 79) = true := by kernel_rfl
theorem tab40 : (Close.tab T 40 == Close.leads Try.prog 40) = true := by kernel_rfl
theorem tab93 : (Close.tab T 93 == Close.leads Try.prog 93) = true := by kernel_rfl
theorem tab47 : (Close.tab T 47 == Close.leads Try.prog 47) = true := by kernel_rfl
theorem tab74 : (Close.tab T 74 == Close.leads Try.prog 74) = true := by kernel_rfl
theorem tab48 : (Close.tab T 48 == Close.leads Try.prog 48) = true := by kernel_rfl
theorem tab34 : (Close.tab T 34 == Close.leads Try.prog 34) = true := by kernel_rfl
theorem tab35 : (Close.tab T 35 == Close.leads Try.prog 35) = true := by kernel_rfl
theorem tabOK : (CL.all fun g => Close.tab T g == Close.leads Try.prog g) = true := by
  unfold CL
  simp only [List.all_cons, List.all_nil, Bool.and_true, Bool.and_eq_true]
  exact ⟨tab19, tab36, tab87, tab119, tab38, tab90, tab121, tab72, tab37, tab88, tab120, tab75, tab89, tab114, tab115, tab100, tab21, tab76, tab73, tab39, tab91, tab122, tab144, tab123, tab84, tab92, tab124, tab145, tab154, tab101, tab23, tab78, tab83, tab116, tab143, tab108, tab117, tab24, tab79, tab40, tab93, tab47, tab74, tab48, tab34, tab35⟩
theorem closed : Try.prog.closure 19 = CL := Close.closure_eq Try.prog 19 T CL SL 60 tabOK (by kernel_rfl) (by decide) (by kernel_rfl) (by decide)
def HC : List Nat := [104, 97, 114, 110, 101, 115, 115, 32, 54, 98, 52, 101, 99, 48, 55, 55, 49, 49, 49, 101, 100, 50, 99, 55, 56, 48, 98, 54, 50, 57, 50, 55, 57, 100, 98, 97, 55, 49, 52, 101, 50, 51, 56, 100, 102, 102, 99, 101, 98, 49, 49, 54, 57, 98, 100, 57, 99, 100, 97, 98, 50, 98, 56, 56, 49, 101, 52, 56, 48, 97, 100, 53, 32, 99, 117, 116, 32, 97, 116, 32, 108, 111, 111, 112, 46, 101, 120, 97, 109, 112, 108, 101, 47, 103, 48, 48, 54, 57, 52, 47, 108, 97, 119, 115, 46, 70, 110, 69, 120, 97, 99, 116, 71, 111, 111, 100, 84, 101, 114, 109, 32, 108, 111, 111, 112, 46, 101, 120, 97, 109, 112, 108, 101, 47, 103, 48, 48, 54, 57, 52, 47, 108, 97, 119, 115, 46, 70, 110, 69, 120, 97, 99, 116, 71, 111, 111, 100, 80, 97, 116, 116, 101, 114, 110, 32, 108, 111, 111, 112, 46, 101, 120, 97, 109, 112, 108, 101, 47, 103, 48, 48, 54, 57, 52, 47, 108, 97, 119, 115, 46, 70, 110, 69, 120, 97, 99, 116, 71, 111, 111, 100, 82, 117, 108, 101, 32, 108, 111, 111, 112, 46, 101, 120, 97, 109, 112, 108, 101, 47, 103, 48, 48, 54, 57, 52, 47, 108, 97, 119, 115, 46, 70, 110, 69, 120, 97, 99, 116, 80, 97, 114, 116, 65, 116, 32, 108, 111, 111, 112, 46, 101, 120, 97, 109, 112, 108, 101, 47, 103, 48, 48, 54, 57, 52, 47, 108, 97, 119, 115, 46, 70, 110, 69, 120, 97, 99, 116, 71, 111, 111, 100, 80, 111, 108, 121, 32, 108, 111, 111, 112, 46, 101, 120, 97, 109, 112, 108, 101, 47, 103, 48, 48, 54, 57, 52, 47, 108, 97, 119, 115, 46, 70, 110, 69, 120, 97, 99, 116, 73, 115, 82, 105, 110, 103, 32, 108, 111, 111, 112, 46, 101, 120, 97, 109, 112, 108, 101, 47, 103, 48, 48, 54, 57, 52, 47, 108, 97, 119, 115, 46, 70, 110, 69, 120, 97, 99, 116, 67, 111, 115, 116, 79, 102, 32, 108, 111, 111, 112, 46, 101, 120, 97, 109, 112, 108, 101, 47, 103, 48, 48, 54, 57, 52, 47, 108, 97, 119, 115, 46, 70, 110, 69, 120, 97, 99, 116, 86, 97, 114, 115, 73, 110, 32, 108, 111, 111, 112, 46, 101, 120, 97, 109, 112, 108, 101, 47, 103, 48, 48, 54, 57, 52, 47, 108, 97, 119, 115, 46, 70, 110, 69, 120, 97, 99, 116, 82, 101, 112, 108, 97, 99, 101, 65, 116, 32, 108, 111, 111, 112, 46, 101, 120, 97, 109, 112, 108, 101, 47, 103, 48, 48, 54, 57, 52, 47, 108, 97, 119, 115, 46, 70, 110, 69, 120, 97, 99, 116, 69, 118, 97, 108, 80, 111, 108, 121, 32, 108, 111, 111, 112, 46, 101, 120, 97, 109, 112, 108, 101, 47, 103, 48, 48, 54, 57, 52, 47, 108, 97, 119, 115, 46, 70, 110, 69, 120, 97, 99, 116, 83, 117, 114, 101, 86, 97, 114, 115, 32, 108, 111, 111, 112, 46, 101, 120, 97, 109, 112, 108, 101, 47, 103, 48, 48, 54, 57, 52, 47, 108, 97, 119, 115, 46, 70, 110, 69, 120, 97, 99, 116, 80, 117, 116, 65, 108, 108, 32, 108, 111, 111, 112, 46, 101, 120, 97, 109, 112, 108, 101, 47, 103, 48, 48, 54, 57, 52, 47, 108, 97, 119, 115, 46, 70, 110, 69, 120, 97, 99, 116, 74, 111, 105, 110, 84, 101, 114, 109, 32, 108, 111, 111, 112, 46, 101, 120, 97, 109, 112, 108, 101, 47, 103, 48, 48, 54, 57, 52, 47, 108, 97, 119, 115, 46, 70, 110, 69, 120, 97, 99, 116, 83, 97, 109, 101, 82, 117, 108, 101, 32, 108, 111, 111, 112, 46, 101, 120, 97, 109, 112, 108, 101, 47, 103, 48, 48, 54, 57, 52, 47, 108, 97, 119, 115, 46, 70, 110, 69, 120, 97, 99, 116, 69, 118, 97, 108, 84, 101, 114, 109, 32, 108, 111, 111, 112, 46, 101, 120, 97, 109, 112, 108, 101, 47, 103, 48, 48, 54, 57, 52, 47, 108, 97, 119, 115, 46, 70, 110, 69, 120, 97, 99, 116, 72, 111, 108, 100, 115, 65, 116, 32, 108, 111, 111, 112, 46, 101, 120, 97, 109, 112, 108, 101, 47, 103, 48, 48, 54, 57, 52, 47, 108, 97, 119, 115, 46, 70, 110, 69, 120, 97, 99, 116, 84, 101, 114, 109, 79, 102]
theorem head : Try.prog.initOrder.toList = HC.map Char.ofNat := by
  have h : Try.prog.initOrder = String.ofList (HC.map Char.ofNat) := by kernel_rfl
  rw [h, String.toList_ofList]
def WL : List (List Nat) := [[97, 116], [108, 111, 111, 112, 46, 101, 120, 97, 109, 112, 108, 101, 47, 103, 48, 48, 54, 57, 52, 47, 108, 97, 119, 115, 46, 70, 110, 69, 120, 97, 99, 116, 71, 111, 111, 100, 84, 101, 114, 109], [108, 111, 111, 112, 46, 101, 120, 97, 109, 112, 108, 101, 47, 103, 48, 48, 54, 57, 52, 47, 108, 97, 119, 115, 46, 70, 110, 69, 120, 97, 99, 116, 71, 111, 111, 100, 80, 97, 116, 116, 101, 114, 110], [108, 111, 111, 112, 46, 101, 120, 97, 109, 112, 108, 101, 47, 103, 48, 48, 54, 57, 52, 47, 108, 97, 119, 115, 46, 70, 110, 69, 120, 97, 99, 116, 71, 111, 111, 100, 82, 117, 108, 101], [108, 111, 111, 112, 46, 101, 120, 97, 109, 112, 108, 101, 47, 103, 48, 48, 54, 57, 52, 47, 108, 97, 119, 115, 46, 70, 110, 69, 120, 97, 99, 116, 80, 97, 114, 116, 65, 116], [108, 111, 111, 112, 46, 101, 120, 97, 109, 112, 108, 101, 47, 103, 48, 48, 54, 57, 52, 47, 108, 97, 119, 115, 46, 70, 110, 69, 120, 97, 99, 116, 71, 111, 111, 100, 80, 111, 108, 121], [108, 111, 111, 112, 46, 101, 120, 97, 109, 112, 108, 101, 47, 103, 48, 48, 54, 57, 52, 47, 108, 97, 119, 115, 46, 70, 110, 69, 120, 97, 99, 116, 73, 115, 82, 105, 110, 103], [108, 111, 111, 112, 46, 101, 120, 97, 109, 112, 108, 101, 47, 103, 48, 48, 54, 57, 52, 47, 108, 97, 119, 115, 46, 70, 110, 69, 120, 97, 99, 116, 67, 111, 115, 116, 79, 102], [108, 111, 111, 112, 46, 101, 120, 97, 109, 112, 108, 101, 47, 103, 48, 48, 54, 57, 52, 47, 108, 97, 119, 115, 46, 70, 110, 69, 120, 97, 99, 116, 86, 97, 114, 115, 73, 110], [108, 111, 111, 112, 46, 101, 120, 97, 109, 112, 108, 101, 47, 103, 48, 48, 54, 57, 52, 47, 108, 97, 119, 115, 46, 70, 110, 69, 120, 97, 99, 116, 82, 101, 112, 108, 97, 99, 101, 65, 116], [108, 111, 111, 112, 46, 101, 120, 97, 109, 112, 108, 101, 47, 103, 48, 48, 54, 57, 52, 47, 108, 97, 119, 115, 46, 70, 110, 69, 120, 97, 99, 116, 69, 118, 97, 108, 80, 111, 108, 121], [108, 111, 111, 112, 46, 101, 120, 97, 109, 112, 108, 101, 47, 103, 48, 48, 54, 57, 52, 47, 108, 97, 119, 115, 46, 70, 110, 69, 120, 97, 99, 116, 83, 117, 114, 101, 86, 97, 114, 115], [108, 111, 111, 112, 46, 101, 120, 97, 109, 112, 108, 101, 47, 103, 48, 48, 54, 57, 52, 47, 108, 97, 119, 115, 46, 70, 110, 69, 120, 97, 99, 116, 80, 117, 116, 65, 108, 108], [108, 111, 111, 112, 46, 101, 120, 97, 109, 112, 108, 101, 47, 103, 48, 48, 54, 57, 52, 47, 108, 97, 119, 115, 46, 70, 110, 69, 120, 97, 99, 116, 74, 111, 105, 110, 84, 101, 114, 109], [108, 111, 111, 112, 46, 101, 120, 97, 109, 112, 108, 101, 47, 103, 48, 48, 54, 57, 52, 47, 108, 97, 119, 115, 46, 70, 110, 69, 120, 97, 99, 116, 83, 97, 109, 101, 82, 117, 108, 101], [108, 111, 111, 112, 46, 101, 120, 97, 109, 112, 108, 101, 47, 103, 48, 48, 54, 57, 52, 47, 108, 97, 119, 115, 46, 70, 110, 69, 120, 97, 99, 116, 69, 118, 97, 108, 84, 101, 114, 109], [108, 111, 111, 112, 46, 101, 120, 97, 109, 112, 108, 101, 47, 103, 48, 48, 54, 57, 52, 47, 108, 97, 119, 115, 46, 70, 110, 69, 120, 97, 99, 116, 72, 111, 108, 100, 115, 65, 116], [108, 111, 111, 112, 46, 101, 120, 97, 109, 112, 108, 101, 47, 103, 48, 48, 54, 57, 52, 47, 108, 97, 119, 115, 46, 70, 110, 69, 120, 97, 99, 116, 84, 101, 114, 109, 79, 102]]
theorem words : behindMainWord (wordsSigns Try.prog.initOrder.toList) = "cut".toList :: WL.map (fun l => l.map Char.ofNat) := by rw [head]; kernel_rfl
theorem fact0 : (Rows.fnExactTermOfRow.wf (OpenSpec.ofChange Rows.fnExactTermOfSpec)) = true := by kernel_rfl
theorem fact1 : (laidOutB Try.prog) = true := by kernel_rfl
theorem fact2 : (mapsRowed Try.prog) = true := by kernel_rfl
theorem fact3 : (Try.f19.params.all (Try.prog.readableRec ·)) = true := by kernel_rfl
theorem fact4 : (namedTie Try.prog Rows.fnExactTermOfRow.named Rows.fnExactTermOfSpec.vars) = true := by kernel_rfl
theorem fact5 : ((Rows.fnExactTermOfRow.stops == [])) = true := by kernel_rfl
theorem fact6 : ((Try.prog.stops == [])) = true := by kernel_rfl
theorem fact7 : ((Rows.fnExactTermOfRow.knobs == [])) = true := by kernel_rfl
theorem fact8 : ((Try.prog.stopKnobs == [])) = true := by kernel_rfl
theorem fact9 : ((Rows.fnExactTermOfRow.inPlace == Try.prog.inPlace 19)) = true := by unfold Program.inPlace; rw [closed]; kernel_rfl
theorem fact10 : ((Rows.fnExactTermOfRow.unfollowed == Try.prog.unfollowed 19)) = true := by unfold Program.unfollowed; rw [closed]; kernel_rfl
theorem fact11 : ((Rows.fnExactTermOfRow.recurses == Try.prog.recurses 19)) = true := by rw [Close.recurses_true Try.prog 19 (by unfold Program.unfollowed; rw [closed]; kernel_rfl)]; rfl
theorem fact12 : ((Rows.fnExactTermOfRow.named == Try.prog.varsNamed 19)) = true := by unfold Program.varsNamed; rw [closed]; kernel_rfl
theorem fact13 : ((Rows.fnExactTermOfRow.maps == (Try.f19.params.toList ++ Rows.fnExactTermOfSpec.plain.varTypes Try.prog).any (Try.prog.mapsRec ·))) = true := by kernel_rfl
theorem fact14 : ((Rows.fnExactTermOfRow.ifaces == (Try.f19.params.toList ++ Rows.fnExactTermOfSpec.plain.varTypes Try.prog).any (Try.prog.ifacesRec ·))) = true := by kernel_rfl
theorem fact15 : ((Rows.fnExactTermOfRow.mapsOut == Try.prog.mapsAmong Try.f19.resultTypes.toList)) = true := by kernel_rfl
theorem fact16 : ((Rows.fnExactTermOfRow.loops == (Try.f19.params.toList ++ Rows.fnExactTermOfSpec.plain.varTypes Try.prog).any (Try.prog.loopsFrom ·))) = true := by kernel_rfl
theorem fact17 : ((Rows.fnExactTermOfRow.wideKeys == (Try.f19.params.toList ++ Rows.fnExactTermOfSpec.plain.varTypes Try.prog ++ Try.f19.resultTypes.toList).any (Try.prog.wideKeysFrom ·))) = true := by kernel_rfl
theorem fact18 : (Rows.fnExactTermOfSpec.vars.all (Try.prog.varReadable ·)) = true := by kernel_rfl
theorem fact19 : (Try.f19.resultTypes.all (fun t => Try.prog.readableRec t && decide (t < Try.prog.types.size))) = true := by kernel_rfl
theorem fact20 : ((Rows.fnExactTermOfRow.ifacesOut == Try.f19.resultTypes.toList.any (Try.prog.ifacesRec ·))) = true := by kernel_rfl
theorem fact21 : ((Rows.fnExactTermOfRow.loopsOut == Try.f19.resultTypes.toList.any (Try.prog.loopsFrom ·))) = true := by kernel_rfl
theorem fact22 : ((Rows.fnExactTermOfRow.plainKeys == Try.prog.plainKeys)) = true := by kernel_rfl
theorem fact23 : (Rows.fnExactTermOfRow.shortTexts.isNone) = true := by kernel_rfl
theorem fact24 : (Try.prog.stopsHeard) = true := by kernel_rfl
theorem fact25 : (Try.prog.mayEnter) = true := Close.may_enter Try.prog _ words (by kernel_rfl) (by kernel_rfl) (by kernel_rfl)
theorem fact26 : ((Rows.fnExactTermOfRow.lifted == Try.prog.liftsFinal)) = true := by rw [Close.lifts_final Try.prog _ words]; rfl
theorem fact27 : ((Try.prog.make == some Rows.fnExactTermOfRow.make)) = true := by rw [Close.make_cut Try.prog _ words]; rfl
theorem fact28 : ((Rows.fnExactTermOfRow.kinds == (if Rows.fnExactTermOfRow.domain.isEmpty then [] else Try.f19.params.toList.map fun t => match Try.prog.underlying t with | some (.int k) => some k | _ => none))) = true := by kernel_rfl
theorem fact29 : ((Rows.fnExactTermOfRow.pinned == Rows.fnExactTermOfRow.pinnedBy)) = true := by kernel_rfl
theorem fact30 : ((Rows.fnExactTermOfRow.veiled == (Try.f19.params.toList ++ Rows.fnExactTermOfSpec.plain.varTypes Try.prog ++ Try.f19.resultTypes.toList).any (Try.prog.veiledRec ·))) = true := by kernel_rfl
theorem fact31 : (Rows.fnExactTermOfRow.veiledFits Try.prog Try.f19.params.toList (Try.f19.params.toList ++ Rows.fnExactTermOfSpec.plain.varTypes Try.prog ++ Try.f19.resultTypes.toList)) = true := by kernel_rfl
set_option maxRecDepth 100000 in
theorem facts : joinedFacts Try.prog 19 Try.f19 Rows.fnExactTermOfSpec Rows.fnExactTermOfRow = true := by
  unfold joinedFacts
  simp only [Bool.and_eq_true]
  exact ⟨⟨⟨⟨⟨⟨⟨⟨⟨⟨⟨⟨⟨⟨⟨⟨⟨⟨⟨⟨⟨⟨⟨⟨⟨⟨⟨⟨⟨⟨⟨fact0, fact1⟩, fact2⟩, fact3⟩, fact4⟩, fact5⟩, fact6⟩, fact7⟩, fact8⟩, fact9⟩, fact10⟩, fact11⟩, fact12⟩, fact13⟩, fact14⟩, fact15⟩, fact16⟩, fact17⟩, fact18⟩, fact19⟩, fact20⟩, fact21⟩, fact22⟩, fact23⟩, fact24⟩, fact25⟩, fact26⟩, fact27⟩, fact28⟩, fact29⟩, fact30⟩, fact31⟩
theorem named : Try.prog.funcNamed Rows.fnExactTermOfRow.func = some 19 := by kernel_rfl
theorem inst : Try.f19.isInstance Try.prog Rows.fnExactTermOfRow.origin Rows.fnExactTermOfRow.targs := of_decide_eq_true (by kernel_rfl)
theorem wrap : Try.f19.isWrapper Try.prog Rows.fnExactTermOfRow.wrapper Rows.fnExactTermOfRow.mainSum := by unfold Func.isWrapper; first | (rw [if_pos (by decide +kernel)]; kernel_rfl) | (rw [if_neg (by decide +kernel)]; exact ⟨rfl, rfl⟩)
theorem over : Rows.fnExactTermOfRow.holds Try.pinned (OpenSpec.ofChange Rows.fnExactTermOfSpec) :=
  OpenClaim.holds_of_wide 19 Try.f19 rfl rfl rfl rfl rfl rfl rfl ⟨rfl, rfl, rfl, rfl, rfl⟩ rfl rfl rfl rfl rfl named Try.func19 facts inst wrap
    (fun os started H enc _ => lifted os started H enc)
theorem proved : Rows.FnExactTermOfSaid := over
#print axioms proved
end Go.Proofs.Ytlneknaiimmfmaa.fnExactTermOf
namespace Go.Proofs.Ytlneknaiimmfmaa
/-- The row, under a short name, for the claim. -/
theorem fnExactTermOf_holds : Rows.FnExactTermOfSaid := fnExactTermOf.proved
end Go.Proofs.Ytlneknaiimmfmaa
