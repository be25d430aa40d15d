/- The row of FnExactOddInverse and its tied card, for every int64; the row's condition is that the library's table lies in its variable as the program's text lays it, and the card ties that to the text. -/
import Derived.Test.YtgklegikmkepgaaDoorRows
import Derived.Test.YtgklegikmkepgaaDoorTie
import Derived.Test.YtgklegikmkepgaaDoorCards
import Derived.Test.YtgklegikmkepgaaDoorOddPure
import Derived.ProofKit
import Derived.OpenShut
import Derived.ChangeSame
import Derived.ChangeVars
import Derived.ChangeOld
import Derived.JoinedOf
import Derived.RowKit
import Derived.RowKitTokens
import Derived.LaidLaws
import Derived.LaidHandle
import Derived.Lib.LaidTab
import Derived.SevenTiedAt
import Derived.Stop.Joined
namespace Go.Proofs.YtgklegikmkepgaaDoor.OddRow
open Go Go.ChangeShapes Go.WideShapes Go.RowKit Go.Proofs.YtgklegikmkepgaaDoorW.PrintWords Go.Proofs.YtgklegikmkepgaaDoorW.PrintLast Go.Proofs.YtgklegikmkepgaaDoorW.PrintMore
set_option linter.unusedVariables false
theorem own : ownKnob Tryd.prog.godebug = none := by kernel_rfl
theorem gT : Tryd.prog.globalNamed "math/bits.deBruijn64tab" = some 0 := by kernel_rfl
theorem gTType : (Tryd.prog.globals[0]?).map (·.type) = some 34 := by kernel_rfl
/-- What the condition gives a walk: the table's cells. -/
theorem tab_of_laid {W : World} (h : laidMet Tryd.prog Rows.fnExactOddInverseRow.laid W) : TabAt 0 Lib.deBruijn64tab W := by
  have h' : laidMet Tryd.prog (("math/bits.deBruijn64tab", Lib.tabData .u8 (Lib.deBruijn64tab.map Int.ofNat)) :: []) W := h
  have ht := Lib.tabIs_of_head gT gTType Tryd.underlying34 Tryd.underlying5 (by kernel_rfl) (by kernel_rfl) h'
  intro j hj
  have := ht.cell gT j (by rw [List.length_map]; exact hj)
  rw [this, List.getD_eq_getElem?_getD, List.getD_eq_getElem?_getD, List.getElem?_map, List.getElem?_eq_getElem hj]
  rfl
noncomputable def laidWorld (os : Os) : World :=
  { World.holding Tryd.prog os ⟨#[], #[], []⟩ with heap := (World.holding Tryd.prog os ⟨#[], #[], []⟩).heap.modify 0 fun
      | .cells _ t frozen => .cells ((Lib.deBruijn64tab.map Int.ofNat).map fun z => Value.int .u8 z).toArray t frozen
      | o => o }
theorem laidWorld_met (os : Os) (args : Array Value) : laidMet Tryd.prog Rows.fnExactOddInverseRow.laid ((laidWorld os).forCall (fun _ _ => 0) ⟨#[], args, []⟩).memory :=
  laidMet_of_run' 8 (by kernel_rfl) (by kernel_rfl)
set_option maxRecDepth 100000 in
theorem lifted (os : Os) (started : os.Started) (H : Type) (enc : TypeId × Value → H) :
    ReturnsInHanded {} Tryd.checked os 3 .any (fun w args => (Rows.fnExactOddInverseSpec.pre enc Tryd.prog Tryd.f3 [] false w args ∧ laidMet Tryd.prog Rows.fnExactOddInverseRow.laid w) ∧ sizedMet enc Tryd.prog Tryd.f3 (OpenSpec.ofChange Rows.fnExactOddInverseSpec) false w args)
      (Rows.fnExactOddInverseSpec.post enc Tryd.prog Tryd.f3 false true false false) := by
  refine returnsInHanded_of_change_and (C := Tryd.checked) (X := fun w _ => laidMet Tryd.prog Rows.fnExactOddInverseRow.laid w) (fun _ _ _ hh h => h.of_heap hh) own started (by kernel_rfl) Tryd.func3
    (ChangeSpec.witness_at (enc := enc) (C := Tryd.checked) (os := os) (X := fun w _ => laidMet Tryd.prog Rows.fnExactOddInverseRow.laid w) false (laidWorld os) #[.int .i64 0] 8 rfl (by kernel_rfl) (by kernel_rfl) (by kernel_rfl) (by kernel_rfl) (by kernel_rfl) (laidWorld_met os _)) ?_
  intro W base args ds gs before hval0 hW _ _ hL _
  have hval : ∀ (j : Nat) t v, Tryd.f3.params[j]? = some t → args[j]? = some v → Value.okWide Tryd.prog W .any base t v := hval0
  have hW' := hW
  obtain ⟨p, q, hA0, hV0, rfl, hfz, hnd⟩ := hW
  have hA : DataW.TrodAll enc Tryd.prog W 0 (fun _ => true) true Tryd.f3.params.toList args.toList ds p := hA0
  rw [Tryd.params3] at hA hval
  obtain ⟨v0, d0, rfl, rfl, h0⟩ := trodAll_one hA
  obtain ⟨a, rfl, rfl, rfl, wa⟩ := open_int Tryd.underlying2 (hval 0 2 v0 rfl rfl) h0
  obtain ⟨rfl, rfl⟩ := trodVars_none hV0
  have hT := tab_of_laid hL
  have hr : -9223372036854775808 ≤ a ∧ a ≤ 9223372036854775807 := by
    have e1 : IntKind.i64.min = -9223372036854775808 := rfl
    have e2 : IntKind.i64.max = 9223372036854775807 := rfl
    simpa [Lit.wf, e1, e2] using wa
  have hcall : Calls Tryd.prog 3 #[.int .i64 a] W fun e w' => e = .returned (.bool true) ∧ Drawn0 W w' := by
    rcases Odd.agree a hr.1 hr.2 with ⟨he, hs⟩ | ⟨ho, r, hs, hl⟩
    · exact Odd.law_calls a 0 false 66 W hs (fun W' ⟨n, hn⟩ => by subst hn; exact Odd.impl_even a _ (Odd.tab_drewN hT) he)
    · exact Odd.law_calls a r true 66 W hs (fun W' ⟨n, hn⟩ => by subst hn; exact Odd.impl_odd a 66 r _ (Odd.tab_drewN hT) ho hl)
  refine hcall.mono fun e W' ⟨he, ⟨n, hn⟩⟩ => ?_
  subst he; subst hn
  refine ⟨_, rfl, _, _, _, [], [], [], hW', trodAll_mk1 (shut_bool Tryd.underlying4 _), trodAll_mk1 (shut_int Tryd.underlying2 wa), rfl, (pw_below_drewN (Below.refl W.heap.size W) n).frame _, fun h => by cases h⟩
theorem row_holds : Rows.FnExactOddInverseSaid :=
  OpenClaim.holds_of_wide 3 Tryd.f3 rfl rfl rfl rfl rfl rfl rfl ⟨rfl, rfl, rfl, rfl, rfl⟩ rfl rfl rfl rfl rfl (by kernel_rfl) Tryd.func3 (by kernel_rfl)
    (of_decide_eq_true (by kernel_rfl)) (by unfold Func.isWrapper; first | (rw [if_pos (by decide +kernel)]; kernel_rfl) | (rw [if_neg (by decide +kernel)]; exact ⟨rfl, rfl⟩))
    (fun os started H enc _ => lifted os started H enc)
theorem card_holds : Claim7.holds Tryd.pinned (.plain (OpenSpec.ofChange Rows.fnExactOddInverseSpec)) Rows.fnExactOddInverseCard :=
  Claim7.holds_tied_plain_at .later [] [.data] true (true, "ee3c1e48c836de0f029bf3416cdf8b2896434901a1bca2fa472cf6f398de966a") true
    row_holds (fun _ h => by cases h) (by kernel_rfl) (fun _ h => by cases h) fnExactOddInverse_row_tie rfl ⟨rfl, rfl⟩ (by kernel_rfl) rfl
    (fun f fn hf hfn => by
      obtain rfl : f = 3 := Option.some.inj ((show Tryd.prog.funcNamed "loop.example/g00694/laws.FnExactOddInverse" = some 3 by kernel_rfl).symm.trans hf) |>.symm
      obtain rfl : fn = Tryd.f3 := (Option.some.inj (Tryd.func3.symm.trans hfn)).symm
      exact ⟨by kernel_rfl, fun j t ht => by
        rw [Tryd.params3] at ht
        have h3 : t = 2 := by
          rcases j with _ | j
          · simpa using ht.symm
          · simp at ht
        subst h3
        exact (show Tryd.prog.wantsStandIn 2 = false by kernel_rfl)⟩)
    (by kernel_rfl)
#print axioms card_holds
end Go.Proofs.YtgklegikmkepgaaDoor.OddRow
namespace Go.Proofs.YtgklegikmkepgaaDoor
/-- The card, under a short name, for the claim. -/
theorem fnExactOddInverse_holds : Rows.FnExactOddInverseCardSaid := OddRow.card_holds
end Go.Proofs.YtgklegikmkepgaaDoor
