/- The program's CostOfOp and the reference's answer alike at every number; no condition. -/
import Derived.Test.YtcckpcgmpmlioaaPFnExactCostOfOpx1
set_option linter.unusedVariables false
set_option linter.unusedSimpArgs false
namespace Go.Proofs.Ytcckpcgmpmlioaa.Pure
open Go.RowKit Go.Proofs.Ytcckpcgmpmlioaa.PFnExactCostOfOp Go.Proofs.YtcckpcgmpmlioaaW.PrintWords Go.Proofs.YtcckpcgmpmlioaaW.PrintLast

theorem w64 (x : Int) (h0 : -9223372036854775808 ≤ x) (h1 : x ≤ 9223372036854775807) : wrap64 x = x := by unfold wrap64; omega
theorem w64s (i : Nat) (h : i ≤ 140737488355328) : wrap64 ((i : Int) + 1) = ((i + 1 : Nat) : Int) := by rw [w64 _ (by omega) (by omega)]; omega
theorem rd_nat (l : List Int) (i : Nat) : rd l (i : Int) = l.getD i 0 := by simp [rd]
theorem getD_lt (l : List Int) (i : Nat) (h : i < l.length) : l.getD i 0 = l[i] := by simp [List.getD_eq_getElem?_getD, h]

theorem FnExactCostOfOp : laws_FnExactCostOfOp.Pure := by
  intro a _
  refine ⟨1, ?_⟩
  unfold laws_FnExactCostOfOp.f spec_CostOfOp.f impl_CostOfOp.f spec_l1Arity.f impl_cost.f spec_l10Op.f impl_isOp.f impl_within.f
  simp only [spec_l1Arity.j0, impl_cost.j0, spec_l10Op.j0, spec_l1In.f]
  by_cases h : 1 ≤ a ∧ a ≤ 11
  · have : a = 1 ∨ a = 2 ∨ a = 3 ∨ a = 4 ∨ a = 5 ∨ a = 6 ∨ a = 7 ∨ a = 8 ∨ a = 9 ∨ a = 10 ∨ a = 11 := by omega
    rcases this with rfl | rfl | rfl | rfl | rfl | rfl | rfl | rfl | rfl | rfl | rfl <;> rfl
  · have e2 : (a == 2) = false := by simp; omega
    have e1 : (a == 1) = false := by simp; omega
    have h1 : ¬ a = 1 := by omega
    have h3 : ¬ a = 3 := by omega
    have h11 : ¬ a = 11 := by omega
    simp only [if_neg h1, e2, if_neg h3, if_neg h11]
    by_cases h1 : a ≥ 1
    · simp only [if_pos (by omega : a ≥ 4), decide_eq_false (by omega : ¬ a ≤ 10), if_pos h1, decide_eq_false (by omega : ¬ a ≤ 11)]; rfl
    · simp only [if_neg (by omega : ¬ a ≥ 4), if_neg h1]; rfl

end Go.Proofs.Ytcckpcgmpmlioaa.Pure
