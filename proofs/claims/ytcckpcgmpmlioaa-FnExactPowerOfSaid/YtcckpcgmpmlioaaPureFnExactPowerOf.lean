/- The program's PowerOf and the reference's answer alike at every two numbers; no condition. -/
import Derived.Test.YtcckpcgmpmlioaaPFnExactPowerOfx1
set_option linter.unusedVariables false
set_option linter.unusedSimpArgs false
namespace Go.Proofs.Ytcckpcgmpmlioaa.Pure
open Go.RowKit Go.Proofs.Ytcckpcgmpmlioaa.PFnExactPowerOf Go.Proofs.YtcckpcgmpmlioaaW.PrintWords Go.Proofs.YtcckpcgmpmlioaaW.PrintLast

theorem w64 (x : Int) (h0 : -9223372036854775808 ≤ x) (h1 : x ≤ 9223372036854775807) : wrap64 x = x := by unfold wrap64; omega
theorem w64s (i : Nat) (h : i ≤ 140737488355328) : wrap64 ((i : Int) + 1) = ((i + 1 : Nat) : Int) := by rw [w64 _ (by omega) (by omega)]; omega
theorem rd_nat (l : List Int) (i : Nat) : rd l (i : Int) = l.getD i 0 := by simp [rd]
theorem getD_lt (l : List Int) (i : Nat) (h : i < l.length) : l.getD i 0 = l[i] := by simp [List.getD_eq_getElem?_getD, h]

/-- A number times itself so often, from a number on, wrapped. -/
def powR (a : Int) : Nat → Int → Int
  | 0, x => x
  | d + 1, x => powR a d (wrap64 (x * a))
theorem spec_l1Power_run (a : Int) (d : Nat) (hd : d ≤ 1000) : ∀ (k : Nat) (x : Int), d < k → spec_l1Power.l0 k a (d : Int) x = some (powR a d x) := by
  induction d with
  | zero =>
    intro k x hk
    obtain ⟨k, rfl⟩ : ∃ m, k = m + 1 := ⟨k - 1, by omega⟩
    simp only [spec_l1Power.l0]
    rw [if_neg (by omega)]; rfl
  | succ d ih =>
    intro k x hk
    obtain ⟨k, rfl⟩ : ∃ m, k = m + 1 := ⟨k - 1, by omega⟩
    simp only [spec_l1Power.l0]
    rw [if_pos (by omega), w64 _ (by omega) (by omega), show ((d + 1 : Nat) : Int) - 1 = (d : Int) by omega]
    exact ih (by omega) k _ (by omega)
theorem impl_power_run (a : Int) (n : Nat) (hn : n ≤ 1000) (d : Nat) : ∀ (k i : Nat) (x : Int), i + d = n → d < k → impl_power.l0 k a x (n : Int) (i : Int) = some (powR a d x) := by
  induction d with
  | zero =>
    intro k i x hi hk
    obtain ⟨k, rfl⟩ : ∃ m, k = m + 1 := ⟨k - 1, by omega⟩
    simp only [impl_power.l0]
    rw [if_neg (by omega)]; rfl
  | succ d ih =>
    intro k i x hi hk
    obtain ⟨k, rfl⟩ : ∃ m, k = m + 1 := ⟨k - 1, by omega⟩
    simp only [impl_power.l0]
    rw [if_pos (by omega), w64s i (by omega)]
    exact ih k (i + 1) _ (by omega) (by omega)
theorem spec_l1Power_f (a : Int) (n : Nat) (hn : n ≤ 1000) (k : Nat) (hk : n < k) : spec_l1Power.f k a (n : Int) = some (powR a n 1) := spec_l1Power_run a n hn k 1 hk
theorem impl_power_f (a : Int) (n : Nat) (hn : n ≤ 1000) (k : Nat) (hk : n < k) : impl_power.f k a (n : Int) = some (powR a n 1) := impl_power_run a n hn n k 0 1 (by omega) hk

theorem FnExactPowerOf : laws_FnExactPowerOf.Pure := by
  intro a n _ _
  refine ⟨66, ?_⟩
  unfold laws_FnExactPowerOf.f spec_PowerOf.f impl_PowerOf.f spec_l1In.f impl_within.f
  by_cases h0 : n ≥ 0
  · rw [if_pos h0]
    by_cases h1 : n ≤ 64
    · obtain ⟨m, rfl⟩ := Int.eq_ofNat_of_zero_le h0
      have e1 := spec_l1Power_f a m (by omega) 66 (by omega)
      have e2 := impl_power_f a m (by omega) 66 (by omega)
      simp only [decide_eq_true h1, Option.bind_some, if_true, e1, e2]
      rfl
    · simp only [decide_eq_false h1, Option.bind_some]; rfl
  · rw [if_neg h0]; rfl

end Go.Proofs.Ytcckpcgmpmlioaa.Pure
