/- The row of FnExactRunFunc, for every input; its conditions are those of the given row alone. -/
import Derived.Test.YtpklnipnggocoaaRows
import Derived.Test.YtpklnipnggocoaaPFnExactRunFuncx19
import Derived.Test.YtpklnipnggocoaaRdFnExactRunFunc
import Derived.Test.YtpklnipnggocoaaPureFnExactRunFunc
import Derived.WalkKit
import Derived.Test.YtpklnipnggocoaaVFnExactRunFunca
import Derived.ProofKit
import Derived.OpenShut
import Derived.ShutString
import Derived.ChangeOld
import Derived.Below
import Derived.SizedLaws
namespace Go.Proofs.Ytpklnipnggocoaa.fnExactRunFunc
open Go.ChangeShapes Go.WideShapes Go.ChangeAt Go.RowKit
open Go.ChangeMaps (open_string shut_string)
set_option linter.unusedVariables false
theorem own : ownKnob Try.prog.godebug = none := by kernel_rfl
theorem laidOut : laidOutB Try.prog = true := by kernel_rfl
set_option maxRecDepth 100000 in
theorem lifted (os : Os) (started : os.Started) (H : Type) (enc : TypeId × Value → H) :
  ReturnsInHanded {} Try.checked os 3 .any (Rows.fnExactRunFuncSpec.pre6 enc Try.prog Try.f3 Rows.fnExactRunFuncRow.domain false) (Rows.fnExactRunFuncSpec.post enc Try.prog Try.f3 false true false false) := by
 refine returnsInHanded_of_change_sized (C := Try.checked) own started (by kernel_rfl) Try.func3
  (ChangeSpec.witness6 (enc := enc) (C := Try.checked) false ⟨#[], #[.agg #[.int .i64 0, .slice none 0 0], .slice none 0 0, .slice none 0 0, .int .i64 0], []⟩ 8 (by kernel_rfl) (by kernel_rfl) (by kernel_rfl) (by kernel_rfl)) ?_
 intro W base args ds gs before hval0 hW hcnd hsz0 _
 have hval : ∀ (j : Nat) t v, Try.f3.params[j]? = some t → args[j]? = some v → Value.okWide Try.prog W .any base t v := hval0
 have hW' := hW
 obtain ⟨p, q, hA0, hV, rfl, hfz, hnd⟩ := hW
 have hA : DataW.TrodAll enc Try.prog W 0 (fun _ => true) true Try.f3.params.toList args.toList ds p := hA0
 rw [Try.params3] at hA hval
 obtain ⟨v0, vs0, d0, ds0, p0, q0, hargs, rfl, rfl, h0, r0⟩ := trodAll_cons hA
 obtain ⟨v1, vs1, d1, ds1, p1, q1, rfl, rfl, rfl, h1, r1⟩ := trodAll_cons r0
 obtain ⟨v2, vs2, d2, ds2, p2, q2, rfl, rfl, rfl, h2, r2⟩ := trodAll_cons r1
 obtain ⟨v3, vs3, d3, ds3, p3, q3, rfl, rfl, rfl, h3, r3⟩ := trodAll_cons r2
 obtain ⟨rfl, rfl, rfl⟩ := trodAll_nil r3
 obtain rfl : args = #[v0, v1, v2, v3] := by cases args; simp_all
 obtain ⟨rfl, rfl⟩ := trodVars_none hV
 have k0 := h0
 have lt0 : ∀ x ∈ p0, x.block < W.heap.size := by obtain ⟨m, hm⟩ := k0; exact DataW.trod_lt m _ _ _ hm
 obtain ⟨⟨cl0⟩, rfl, _⟩ := okWide_struct Try.underlying24 (hval 0 24 v0 rfl rfl)
 obtain ⟨x0, kk0, ok0⟩ := Open.of_trod RdFnExactRunFunc.reads24 h0
 obtain ⟨A0_1, c0_1, e0, l0_1, g0_1⟩ := PFnExactRunFunc.k24_open kk0
 obtain rfl : cl0 = _ := e0
 have k1 := h1
 have lt1 : ∀ x ∈ p1, x.block < W.heap.size := by obtain ⟨m, hm⟩ := k1; exact DataW.trod_lt m _ _ _ hm
 obtain ⟨a1, len1, cap1, rfl⟩ := okWide_slice Try.underlying25 (hval 1 25 v1 rfl rfl)
 obtain ⟨l1, kk1, ok1⟩ := Open.of_trod (Open.reads_slice Try.underlying25 (by kernel_rfl) (Open.reads_int Try.underlying2)) h1
 obtain ⟨A1, c1, e1, n1, g1⟩ := Open.one_slice (c := .slice a1 len1 cap1) kk1
 cases e1
 have k2 := h2
 have lt2 : ∀ x ∈ p2, x.block < W.heap.size := by obtain ⟨m, hm⟩ := k2; exact DataW.trod_lt m _ _ _ hm
 obtain ⟨a2, len2, cap2, rfl⟩ := okWide_slice Try.underlying25 (hval 2 25 v2 rfl rfl)
 obtain ⟨l2, kk2, ok2⟩ := Open.of_trod (Open.reads_slice Try.underlying25 (by kernel_rfl) (Open.reads_int Try.underlying2)) h2
 obtain ⟨A2, c2, e2, n2, g2⟩ := Open.one_slice (c := .slice a2 len2 cap2) kk2
 cases e2
 obtain ⟨a3, rfl, rfl, rfl, w3⟩ := open_int Try.underlying3 (hval 3 3 v3 rfl rfl) h3
 clear hA0 hval0 hsz0
 obtain ⟨k, hp⟩ := Pure.FnExactRunFunc x0 l1 l2 a3 ok0 g0_1.2.1 g1.2.1 ok1 g2.2.1 ok2 w3
 refine (PFnExactRunFunc.laws_FnExactRunFunc.calls k x0.f0 _ _ x0.f1 _ _ l1 _ _ l2 a3 true W g0_1 l0_1 g1 n1 g2 n2 hp).mono fun e W' ⟨he, bel⟩ => ?_
 subst he
 exact ⟨_, rfl, _, _, _, [], _, [], hW', trodAll_mk1 (shut_bool Try.underlying4 _), (trodAll_cons_mk (Below.trod laidOut (by kernel_rfl) (of_decide_eq_true (by kernel_rfl)) k0 bel lt0) (trodAll_cons_mk (Below.trod laidOut (by kernel_rfl) (of_decide_eq_true (by kernel_rfl)) k1 bel lt1) (trodAll_cons_mk (Below.trod laidOut (by kernel_rfl) (of_decide_eq_true (by kernel_rfl)) k2 bel lt2) (trodAll_cons_mk (shut_int Try.underlying3 w3) trodAll_mk0)))), rfl, bel.frame _, fun h => by cases h⟩
def T : List (Nat × List Nat) := [(3, [8, 10, 11, 11, 9, 10, 11, 11, 12, 13, 10, 14, 11, 15, 11, 15, 16, 17, 17, 13, 18, 19, 10, 11, 11, 12, 13, 19]), (8, [28]), (28, [46]), (46, [63, 64]), (63, [81]), (81, [96]), (96, []), (64, [82]), (82, [96]), (10, [31]), (31, [49]), (49, [66, 67]), (66, [85]), (85, [97]), (97, []), (67, [86]), (86, [97]), (11, []), (9, [20, 29, 30]), (20, [29, 29, 29, 39, 40, 40, 41, 42]), (29, []), (39, []), (40, [60]), (60, [29]), (41, [29]), (42, [29, 29, 41]), (30, [39, 43, 47, 48, 43]), (43, []), (47, [48, 65]), (48, []), (65, [83, 84, 84]), (83, []), (84, []), (12, [32, 33, 34, 35]), (32, [50, 52, 51]), (50, [33, 33, 68, 33, 68]), (33, []), (68, [87]), (87, [98, 99]), (98, []), (99, []), (52, [53]), (53, [71, 70, 74, 73, 76, 76]), (71, [72]), (72, [89, 76]), (89, [100, 101]), (100, [33]), (101, []), (76, [92, 91]), (92, [33]), (91, [102]), (102, []), (70, [88]), (88, []), (74, [75]), (75, [33, 76]), (73, [90]), (90, []), (51, [69]), (69, []), (34, []), (35, [54, 55, 56]), (54, [56, 77]), (56, []), (77, [93, 93]), (93, []), (55, []), (13, [15]), (15, []), (14, [36]), (36, [57]), (57, [78, 79]), (78, [94]), (94, [103]), (103, []), (79, [95]), (95, [103]), (16, [37]), (37, [58, 59]), (58, [80]), (80, []), (59, [80]), (17, []), (18, [17]), (19, [38]), (38, [])]
def CL : List Nat := [3, 8, 28, 46, 63, 81, 96, 64, 82, 10, 31, 49, 66, 85, 97, 67, 86, 11, 9, 20, 29, 39, 40, 60, 41, 42, 30, 43, 47, 48, 65, 83, 84, 12, 32, 50, 33, 68, 87, 98, 99, 52, 53, 71, 72, 89, 100, 101, 76, 92, 91, 102, 70, 88, 74, 75, 73, 90, 51, 69, 34, 35, 54, 56, 77, 93, 55, 13, 15, 14, 36, 57, 78, 94, 103, 79, 95, 16, 37, 58, 80, 59, 17, 18, 19, 38]
def SL : List Nat := [3, 8, 9, 10, 11, 12, 13, 14, 15, 16, 17, 18, 19, 20, 28, 29, 30, 31, 32, 33, 34, 35, 36, 37, 38, 39, 40, 41, 42, 43, 46, 47, 48, 49, 50, 51, 52, 53, 54, 55, 56, 57, 58, 59, 60, 63, 64, 65, 66, 67, 68, 69, 70, 71, 72, 73, 74, 75, 76, 77, 78, 79, 80, 81, 82, 83, 84, 85, 86, 87, 88, 89, 90, 91, 92, 93, 94, 95, 96, 97, 98, 99, 100, 101, 102, 103]
theorem tab3 : (Close.tab T 3 == Close.leads Try.prog 3) = true := by kernel_rfl
theorem tab8 : (Close.tab T 8 == Close.leads Try.prog 8) = true := by kernel_rfl
theorem tab28 : (Close.tab T 28 == Close.leads Try.prog 28) = true := by kernel_rfl
theorem tab46 : (Close.tab T 46 == Close.leads Try.prog 46) = true := by kernel_rfl
theorem tab63 : (Close.tab T 63 == Close.leads Try.prog 63) = true := by kernel_rfl
theorem tab81 : (Close.tab T 81 == Close.leads Try.prog 81) = true := by kernel_rfl
theorem tab96 : (Close.tab T 96 == Close.leads Try.prog 96) = true := by kernel_rfl
theorem tab64 : (Close.tab T 64 == Close.leads Try.prog 64) = true := by kernel_rfl
theorem tab82 : (Close.tab T 82 == Close.leads Try.prog 82) = true := by kernel_rfl
theorem tab10 : (Close.tab T 10 == Close.leads Try.prog 10) = true := by kernel_rfl
theorem tab31 : (Close.tab T 31 == Close.leads Try.prog 31) = true := by kernel_rfl
theorem tab49 : (Close.tab T 49 == Close.leads Try.prog 49) = true := by kernel_rfl
theorem tab66 : (Close.tab T 66 == Close.leads Try.prog 66) = true := by kernel_rfl
theorem tab85 : (Close.tab T 85 == Close.leads Try.prog 85) = true := by kernel_rfl
theorem tab97 : (Close.tab T 97 == Close.leads Try.prog 97) = true := by kernel_rfl
theorem tab67 : (Close.tab T 67 == Close.leads Try.prog 67) = true := by kernel_rfl
theorem tab86 : (Close.tab T 86 == Close.leads Try.prog 86) = true := by kernel_rfl
theorem tab11 : (Close.tab T 11 == Close.leads Try.prog 11) = true := by kernel_rfl
theorem tab9 : (Close.tab T 9 == Close.leads Try.prog 9) = true := by kernel_rfl
theorem tab20 : (Close.tab T 20 == Close.leads Try.prog 20) = true := by kernel_rfl
theorem tab29 : (Close.tab T 29 == Close.leads Try.prog 29) = true := by kernel_rfl
theorem tab39 : (Close.tab T 39 == Close.leads Try.prog 39) = true := by kernel_rfl
theorem tab40 : (Close.tab T 40 == Close.leads Try.prog 40) = true := by kernel_rfl
theorem tab60 : (Close.tab T 60 == Close.leads Try.prog 60) = true := by kernel_rfl
theorem tab41 : (Close.tab T 41 == Close.leads Try.prog 41) = true := by kernel_rfl
theorem tab42 : (Close.tab T 42 == Close.leads Try.prog 42) = true := by kernel_rfl
theorem tab30 : (Close.tab T 30 == Close.leads Try.prog 30) = true := by kernel_rfl
theorem tab43 : (Close.tab T 43 == Close.leads Try.prog 43) = true := by kernel_rfl
theorem tab47 : (Close.tab T 47 == Close.leads Try.prog 47) = true := by kernel_rfl
theorem tab48 : (Close.tab T 48 == Close.leads Try.prog 48) = true := by kernel_rfl
theorem tab65 : (Close.tab T 65 == Close.leads Try.prog 65) = true := by kernel_rfl
theorem tab83 : (Close.tab T 83 == Close.leads Try.prog 83) = true := by kernel_rfl
theorem tab84 : (Close.tab T 84 == Close.leads Try.prog 84) = true := by kernel_rfl
theorem tab12 : (Close.tab T 12 == Close.leads Try.prog 12) = true := by kernel_rfl
theorem tab32 : (Close.tab T 32 == Close.leads Try.prog 32) = true := by kernel_rfl
theorem tab50 : (Close.tab T 50 == Close.leads Try.prog 50) = true := by kernel_rfl
theorem tab33 : (Close.tab T 33 == Close.leads Try.prog 33) = true := by kernel_rfl
theorem tab68 : (Close.tab T 68 == Close.leads Try.prog 68) = true := by kernel_rfl
theorem tab87 : (Close.tab T 87 == Close.leads Try.prog 87) = true := by kernel_rfl
theorem tab98 : (Close.tab T 98 == Close.leads Try.prog 98) = true := by kernel_rfl
theorem tab99 : (Close.tab T 99 == Close.leads Try.prog 99) = true := by kernel_rfl
theorem tab52 : (Close.tab T 52 == Close.leads Try.prog 52) = true := by kernel_rfl
theorem tab53 : (Close.tab T 53 == Close.leads Try.prog 53) = true := by kernel_rfl
theorem tab71 : (Close.tab T 71 == Close.leads Try.prog 71) = true := by kernel_rfl
theorem tab72 : (Close.tab T 72 == Close.leads Try.prog 72) = true := by kernel_rfl
theorem tab89 : (Close.tab T 89 == Close.leads Try.prog 89) = true := by kernel_rfl
theorem tab100 : (Close.tab T 100 == Close.leads Try.prog 100) = true := by kernel_rfl
theorem tab101 : (Close.tab T 101 == Close.leads Try.prog 101) = true := by kernel_rfl
theorem tab76 : (Close.tab T 76 == Close.leads Try.prog 76) = true := by kernel_rfl
theorem tab92 : (Close.tab T 92 == Close.leads Try.prog 92) = true := by kernel_rfl
theorem tab91 : (Close.tab T 91 == Close.leads Try.prog 91) = true := by kernel_rfl
theorem tab102 : (Close.tab T 102 == Close.leads Try.prog 102) = true := by kernel_rfl
theorem tab70 : (Close.tab T 70 == Close.leads Try.prog 70) = true := by kernel_rfl
theorem tab88 : (Close.tab T 88 == Close.leads Try.prog 88) = true := by kernel_rfl
theorem tab74 : (Close.tab T 74 == Close.leads Try.prog 74) = true := by kernel_rfl
theorem tab75 : (Close.tab T 75 == Close.leads Try.prog 75) = true := by kernel_rfl
theorem tab73 : (Close.tab T 73 == Close.leads Try.prog 73) = true := by kernel_rfl
theorem tab90 : (Close.tab T 90 == Close.leads Try.prog 90) = true := by kernel_rfl
theorem tab51 : (Close.tab T 51 == Close.leads Try.prog 51) = true := by kernel_rfl
theorem tab69 : (Close.tab T 69 == Close.leads Try.prog 69) = true := by kernel_rfl
theorem tab34 : (Close.tab T 34 == Close.leads Try.prog 34) = true := by kernel_rfl
theorem tab35 : (Close.tab T 35 == Close.leads Try.prog 35) = true := by kernel_rfl
theorem tab54 : (Close.tab T 54 == Close.leads Try.prog 54) = true := by kernel_rfl
theorem tab56 : (Close.tab T 56 == Close.leads Try.prog 56) = true := by kernel_rfl
theorem tab77 : (Close.tab T 77 == Close.leads Try.prog 77) = true := by kernel_rfl
theorem tab93 : (Close.tab T 93 == Close.leads Try.prog 93) = true := by kernel_rfl
theorem tab55 : (Close.tab T 55 == Close.leads Try.prog 55) = true := by kernel_rfl
theorem tab13 : (Close.tab T 13 == Close.leads Try.prog 13) = true := by kernel_rfl
theorem tab15 : (Close.tab T 15 == Close.leads Try.prog 15) = true := by kernel_rfl
theorem tab14 : (Close.tab T 14 == Close.leads Try.prog 14) = true := by kernel_rfl
theorem tab36 : (Close.tab T 36 == Close.leads Try.prog 36) = true := by kernel_rfl
theorem tab57 : (Close.tab T 57 == Close.leads Try.prog 57) = true := by kernel_rfl
theorem tab78 : (Close.tab T 78 == Close.leads Try.prog 78) = true := by kernel_rfl
theorem tab94 : (Close.tab T 94 == Close.leads Try.prog 94) = true := by kernel_rfl
theorem tab103 : (Close.tab T 103 == Close.leads Try.prog 103) = true := by kernel_rfl
theorem tab79 : (Close.tab T 79 == Close.leads Try.prog 79) = true := by kernel_rfl
theorem tab95 : (Close.tab T 95 == Close.leads Try.prog 95) = true := by kernel_rfl
theorem tab16 : (Close.tab T 16 == Close.leads Try.prog 16) = true := by kernel_rfl
theorem tab37 : (Close.tab T 37 == Close.leads Try.prog 37) = true := by kernel_rfl
theorem tab58 : (Close.tab T 58 == Close.leads Try.prog 58) = true := by kernel_rfl
theorem tab80 : (Close.tab T 80 == Close.leads Try.prog 80) = true := by kernel_rfl
theorem tab59 : (Close.tab T 59 == Close.leads Try.prog 59) = true := by kernel_rfl
theorem tab17 : (Close.tab T 17 == Close.leads Try.prog 17) = true := by kernel_rfl
theorem tab18 : (Close.tab T 18 == Close.leads Try.prog 18) = true := by kernel_rfl
theorem tab19 : (Close.tab T 19 == Close.leads Try.prog 19) = true := by kernel_rfl
theorem tab38 : (Close.tab T 38 == Close.leads Try.prog 38) = true := by kernel_rfl
theorem tabOK : (CL.all fun g => Close.tab T g == Close.leads Try.prog g) = true := by
 unfold CL
 simp only [List.all_cons, List.all_nil, Bool.and_true, Bool.and_eq_true]
 exact ⟨tab3, tab8, tab28, tab46, tab63, tab81, tab96, tab64, tab82, tab10, tab31, tab49, tab66, tab85, tab97, tab67, tab86, tab11, tab9, tab20, tab29, tab39, tab40, tab60, tab41, tab42, tab30, tab43, tab47, tab48, tab65, tab83, tab84, tab12, tab32, tab50, tab33, tab68, tab87, tab98, tab99, tab52, tab53, tab71, tab72, tab89, tab100, tab101, tab76, tab92, tab91, tab102, tab70, tab88, tab74, tab75, tab73, tab90, tab51, tab69, tab34, tab35, tab54, tab56, tab77, tab93, tab55, tab13, tab15, tab14, tab36, tab57, tab78, tab94, tab103, tab79, tab95, tab16, tab37, tab58, tab80, tab59, tab17, tab18, tab19, tab38⟩
theorem closed : Try.prog.closure 3 = CL := Close.closure_eq Try.prog 3 T CL SL 133 tabOK (by kernel_rfl) (by decide) (by kernel_rfl) (by decide)
def HC : List Nat := [104, 97, 114, 110, 101, 115, 115, 32, 98, 48, 102, 57, 51, 49, 102, 51, 55, 50, 52, 52, 52, 50, 50, 51, 97, 56, 55, 49, 101, 99, 54, 98, 52, 100, 100, 101, 53, 56, 97, 98, 53, 53, 48, 99, 51, 102, 99, 99, 50, 53, 97, 53, 57, 102, 56, 48, 98, 55, 51, 57, 50, 99, 55, 100, 99, 57, 49, 102, 48, 48, 57, 53, 32, 99, 117, 116, 32, 97, 116, 32, 108, 111, 111, 112, 46, 101, 120, 97, 109, 112, 108, 101, 47, 103, 48, 48, 54, 57, 52, 47, 108, 97, 119, 115, 46, 70, 110, 69, 120, 97, 99, 116, 82, 117, 110, 70, 117, 110, 99, 32, 108, 111, 111, 112, 46, 101, 120, 97, 109, 112, 108, 101, 47, 103, 48, 48, 54, 57, 52, 47, 108, 97, 119, 115, 46, 70, 110, 69, 120, 97, 99, 116, 71, 111, 111, 100, 70, 117, 110, 99, 32, 108, 111, 111, 112, 46, 101, 120, 97, 109, 112, 108, 101, 47, 103, 48, 48, 54, 57, 52, 47, 108, 97, 119, 115, 46, 70, 110, 69, 120, 97, 99, 116, 67, 111, 117, 110, 116, 86, 97, 108, 117, 101, 115, 32, 108, 111, 111, 112, 46, 101, 120, 97, 109, 112, 108, 101, 47, 103, 48, 48, 54, 57, 52, 47, 108, 97, 119, 115, 46, 70, 110, 69, 120, 97, 99, 116, 70, 105, 114, 115, 116, 79, 102, 32, 108, 111, 111, 112, 46, 101, 120, 97, 109, 112, 108, 101, 47, 103, 48, 48, 54, 57, 52, 47, 108, 97, 119, 115, 46, 70, 110, 69, 120, 97, 99, 116, 67, 111, 115, 116, 79, 102, 70, 117, 110, 99]
theorem head : Try.prog.initOrder.toList = HC.map Char.ofNat := by
 have h : Try.prog.initOrder = String.ofList (HC.map Char.ofNat) := by kernel_rfl
 rw [h, String.toList_ofList]
def WL : List (List Nat) := [[97, 116], [108, 111, 111, 112, 46, 101, 120, 97, 109, 112, 108, 101, 47, 103, 48, 48, 54, 57, 52, 47, 108, 97, 119, 115, 46, 70, 110, 69, 120, 97, 99, 116, 82, 117, 110, 70, 117, 110, 99], [108, 111, 111, 112, 46, 101, 120, 97, 109, 112, 108, 101, 47, 103, 48, 48, 54, 57, 52, 47, 108, 97, 119, 115, 46, 70, 110, 69, 120, 97, 99, 116, 71, 111, 111, 100, 70, 117, 110, 99], [108, 111, 111, 112, 46, 101, 120, 97, 109, 112, 108, 101, 47, 103, 48, 48, 54, 57, 52, 47, 108, 97, 119, 115, 46, 70, 110, 69, 120, 97, 99, 116, 67, 111, 117, 110, 116, 86, 97, 108, 117, 101, 115], [108, 111, 111, 112, 46, 101, 120, 97, 109, 112, 108, 101, 47, 103, 48, 48, 54, 57, 52, 47, 108, 97, 119, 115, 46, 70, 110, 69, 120, 97, 99, 116, 70, 105, 114, 115, 116, 79, 102], [108, 111, 111, 112, 46, 101, 120, 97, 109, 112, 108, 101, 47, 103, 48, 48, 54, 57, 52, 47, 108, 97, 119, 115, 46, 70, 110, 69, 120, 97, 99, 116, 67, 111, 115, 116, 79, 102, 70, 117, 110, 99]]
theorem words : behindMainWord (wordsSigns Try.prog.initOrder.toList) = "cut".toList :: WL.map (fun l => l.map Char.ofNat) := by rw [head]; kernel_rfl
theorem fact0 : (Rows.fnExactRunFuncRow.wf (OpenSpec.ofChange Rows.fnExactRunFuncSpec)) = true := by kernel_rfl
theorem fact1 : (laidOutB Try.prog) = true := by kernel_rfl
theorem fact2 : (mapsRowed Try.prog) = true := by kernel_rfl
theorem fact3 : (Try.f3.params.all (Try.prog.readableRec ·)) = true := by kernel_rfl
theorem fact4 : (namedTie Try.prog Rows.fnExactRunFuncRow.named Rows.fnExactRunFuncSpec.vars) = true := by kernel_rfl
theorem fact5 : ((Rows.fnExactRunFuncRow.stops == [])) = true := by kernel_rfl
theorem fact6 : ((Try.prog.stops == [])) = true := by kernel_rfl
theorem fact7 : ((Rows.fnExactRunFuncRow.knobs == [])) = true := by kernel_rfl
theorem fact8 : ((Try.prog.stopKnobs == [])) = true := by kernel_rfl
theorem fact9 : ((Rows.fnExactRunFuncRow.inPlace == Try.prog.inPlace 3)) = true := by unfold Program.inPlace; rw [closed]; kernel_rfl
theorem fact10 : ((Rows.fnExactRunFuncRow.unfollowed == Try.prog.unfollowed 3)) = true := by unfold Program.unfollowed; rw [closed]; kernel_rfl
theorem fact11 : ((Rows.fnExactRunFuncRow.recurses == Try.prog.recurses 3)) = true := by rw [Close.recurses_true Try.prog 3 (by unfold Program.unfollowed; rw [closed]; kernel_rfl)]; rfl
theorem fact12 : ((Rows.fnExactRunFuncRow.named == Try.prog.varsNamed 3)) = true := by unfold Program.varsNamed; rw [closed]; kernel_rfl
theorem fact13 : ((Rows.fnExactRunFuncRow.maps == (Try.f3.params.toList ++ Rows.fnExactRunFuncSpec.plain.varTypes Try.prog).any (Try.prog.mapsRec ·))) = true := by kernel_rfl
theorem fact14 : ((Rows.fnExactRunFuncRow.ifaces == (Try.f3.params.toList ++ Rows.fnExactRunFuncSpec.plain.varTypes Try.prog).any (Try.prog.ifacesRec ·))) = true := by kernel_rfl
theorem fact15 : ((Rows.fnExactRunFuncRow.mapsOut == Try.prog.mapsAmong Try.f3.resultTypes.toList)) = true := by kernel_rfl
theorem fact16 : ((Rows.fnExactRunFuncRow.loops == (Try.f3.params.toList ++ Rows.fnExactRunFuncSpec.plain.varTypes Try.prog).any (Try.prog.loopsFrom ·))) = true := by kernel_rfl
theorem fact17 : ((Rows.fnExactRunFuncRow.wideKeys == (Try.f3.params.toList ++ Rows.fnExactRunFuncSpec.plain.varTypes Try.prog ++ Try.f3.resultTypes.toList).any (Try.prog.wideKeysFrom ·))) = true := by kernel_rfl
theorem fact18 : (Rows.fnExactRunFuncSpec.vars.all (Try.prog.varReadable ·)) = true := by kernel_rfl
theorem fact19 : (Try.f3.resultTypes.all (fun t => Try.prog.readableRec t && decide (t < Try.prog.types.size))) = true := by kernel_rfl
theorem fact20 : ((Rows.fnExactRunFuncRow.ifacesOut == Try.f3.resultTypes.toList.any (Try.prog.ifacesRec ·))) = true := by kernel_rfl
theorem fact21 : ((Rows.fnExactRunFuncRow.loopsOut == Try.f3.resultTypes.toList.any (Try.prog.loopsFrom ·))) = true := by kernel_rfl
theorem fact22 : ((Rows.fnExactRunFuncRow.plainKeys == Try.prog.plainKeys)) = true := by kernel_rfl
theorem fact23 : (Rows.fnExactRunFuncRow.shortTexts.isNone) = true := by kernel_rfl
theorem fact24 : (Try.prog.stopsHeard) = true := by kernel_rfl
theorem fact25 : (Try.prog.mayEnter) = true := Close.may_enter Try.prog _ words (by kernel_rfl) (by kernel_rfl) (by kernel_rfl)
theorem fact26 : ((Rows.fnExactRunFuncRow.lifted == Try.prog.liftsFinal)) = true := by rw [Close.lifts_final Try.prog _ words]; rfl
theorem fact27 : ((Try.prog.make == some Rows.fnExactRunFuncRow.make)) = true := by rw [Close.make_cut Try.prog _ words]; rfl
theorem fact28 : ((Rows.fnExactRunFuncRow.kinds == (if Rows.fnExactRunFuncRow.domain.isEmpty then [] else Try.f3.params.toList.map fun t => match Try.prog.underlying t with | some (.int k) => some k | _ => none))) = true := by kernel_rfl
theorem fact29 : ((Rows.fnExactRunFuncRow.pinned == Rows.fnExactRunFuncRow.pinnedBy)) = true := by kernel_rfl
theorem fact30 : ((Rows.fnExactRunFuncRow.veiled == (Try.f3.params.toList ++ Rows.fnExactRunFuncSpec.plain.varTypes Try.prog ++ Try.f3.resultTypes.toList).any (Try.prog.veiledRec ·))) = true := by kernel_rfl
theorem fact31 : (Rows.fnExactRunFuncRow.veiledFits Try.prog Try.f3.params.toList (Try.f3.params.toList ++ Rows.fnExactRunFuncSpec.plain.varTypes Try.prog ++ Try.f3.resultTypes.toList)) = true := by kernel_rfl
set_option maxRecDepth 100000 in
theorem facts : joinedFacts Try.prog 3 Try.f3 Rows.fnExactRunFuncSpec Rows.fnExactRunFuncRow = true := by
 unfold joinedFacts
 simp only [Bool.and_eq_true]
 exact ⟨⟨⟨⟨⟨⟨⟨⟨⟨⟨⟨⟨⟨⟨⟨⟨⟨⟨⟨⟨⟨⟨⟨⟨⟨⟨⟨⟨⟨⟨⟨fact0, fact1⟩, fact2⟩, fact3⟩, fact4⟩, fact5⟩, fact6⟩, fact7⟩, fact8⟩, fact9⟩, fact10⟩, fact11⟩, fact12⟩, fact13⟩, fact14⟩, fact15⟩, fact16⟩, fact17⟩, fact18⟩, fact19⟩, fact20⟩, fact21⟩, fact22⟩, fact23⟩, fact24⟩, fact25⟩, fact26⟩, fact27⟩, fact28⟩, fact29⟩, fact30⟩, fact31⟩
theorem named : Try.prog.funcNamed Rows.fnExactRunFuncRow.func = some 3 := by kernel_rfl
theorem inst : Try.f3.isInstance Try.prog Rows.fnExactRunFuncRow.origin Rows.fnExactRunFuncRow.targs := of_decide_eq_true (by kernel_rfl)
theorem wrap : Try.f3.isWrapper Try.prog Rows.fnExactRunFuncRow.wrapper Rows.fnExactRunFuncRow.mainSum := by unfold Func.isWrapper; first | (rw [if_pos (by decide +kernel)]; kernel_rfl) | (rw [if_neg (by decide +kernel)]; exact ⟨rfl, rfl⟩)
theorem over : Rows.fnExactRunFuncRow.holds Try.pinned (OpenSpec.ofChange Rows.fnExactRunFuncSpec) :=
 OpenClaim.holds_of_wide 3 Try.f3 rfl rfl rfl rfl rfl rfl rfl ⟨rfl, rfl, rfl, rfl, rfl⟩ rfl rfl rfl rfl rfl named Try.func3 facts inst wrap
  (fun os started H enc _ => lifted os started H enc)
theorem proved : Rows.FnExactRunFuncSaid := over
#print axioms proved
end Go.Proofs.Ytpklnipnggocoaa.fnExactRunFunc
namespace Go.Proofs.Ytpklnipnggocoaa
/-- The row, under a short name, for the claim. -/
theorem fnExactRunFunc_holds : Rows.FnExactRunFuncSaid := fnExactRunFunc.proved
end Go.Proofs.Ytpklnipnggocoaa
