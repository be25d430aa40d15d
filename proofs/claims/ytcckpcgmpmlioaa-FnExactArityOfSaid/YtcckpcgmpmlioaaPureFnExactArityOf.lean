/- The program's ArityOf and the reference's answer alike at every number; no condition. -/
import Derived.Test.YtcckpcgmpmlioaaPFnExactArityOfx1
set_option linter.unusedVariables false
set_option linter.unusedSimpArgs false
namespace Go.Proofs.Ytcckpcgmpmlioaa.Pure
open Go.RowKit Go.Proofs.Ytcckpcgmpmlioaa.PFnExactArityOf Go.Proofs.YtcckpcgmpmlioaaW.PrintWords Go.Proofs.YtcckpcgmpmlioaaW.PrintLast

theorem w64 (x : Int) (h0 : -9223372036854775808 ≤ x) (h1 : x ≤ 9223372036854775807) : wrap64 x = x := by unfold wrap64; omega
theorem w64s (i : Nat) (h : i ≤ 140737488355328) : wrap64 ((i : Int) + 1) = ((i + 1 : Nat) : Int) := by rw [w64 _ (by omega) (by omega)]; omega
theorem rd_nat (l : List Int) (i : Nat) : rd l (i : Int) = l.getD i 0 := by simp [rd]
theorem getD_lt (l : List Int) (i : Nat) (h : i < l.length) : l.getD i 0 = l[i] := by simp [List.getD_eq_getElem?_getD, h]

theorem FnExactArityOf : laws_FnExactArityOf.Pure := by
  intro a _
  refine ⟨1, ?_⟩
  unfold laws_FnExactArityOf.f spec_ArityOf.f impl_ArityOf.f spec_l1Arity.f impl_arity.f impl_isOp.f impl_within.f
  simp only [spec_l1Arity.j0, impl_arity.j0, spec_l1In.f]
  by_cases h : 1 ≤ a ∧ a ≤ 11
  · have : a = 1 ∨ a = 2 ∨ a = 3 ∨ a = 4 ∨ a = 5 ∨ a = 6 ∨ a = 7 ∨ a = 8 ∨ a = 9 ∨ a = 10 ∨ a = 11 := by omega
    rcases this with rfl | rfl | rfl | rfl | rfl | rfl | rfl | rfl | rfl | rfl | rfl <;> rfl
  · have e2 : (a == 2) = false := by simp; omega
    rw [if_neg (by omega), e2, if_neg (by simp), if_neg (by omega), if_neg (by omega)]
    by_cases h1 : a ≥ 1
    · rw [if_pos (by omega : a ≥ 4), decide_eq_false (by omega : ¬ a ≤ 10), if_pos h1, decide_eq_false (by omega : ¬ a ≤ 11)]; rfl
    · rw [if_neg (by omega : ¬ a ≥ 4), if_neg h1]; rfl

end Go.Proofs.Ytcckpcgmpmlioaa.Pure
