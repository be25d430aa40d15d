/- The program's SameOutcome and the reference's answer alike at every two outcomes; no condition. -/
import Derived.Test.YtcckpcgmpmlioaaPFnExactSameOutcomex3
import Derived.Test.YtcckpcgmpmlioaaRdFnExactSameOutcome
set_option linter.unusedVariables false
set_option linter.unusedSimpArgs false
namespace Go.Proofs.Ytcckpcgmpmlioaa.Pure
open Go.RowKit Go.Proofs.Ytcckpcgmpmlioaa.PFnExactSameOutcome Go.Proofs.YtcckpcgmpmlioaaW.PrintWords Go.Proofs.YtcckpcgmpmlioaaW.PrintLast Go.Proofs.YtcckpcgmpmlioaaW.PrintMore

theorem w64 (x : Int) (h0 : -9223372036854775808 ≤ x) (h1 : x ≤ 9223372036854775807) : wrap64 x = x := by unfold wrap64; omega
theorem w64s (i : Nat) (h : i ≤ 140737488355328) : wrap64 ((i : Int) + 1) = ((i + 1 : Nat) : Int) := by rw [w64 _ (by omega) (by omega)]; omega
theorem rd_nat (l : List Int) (i : Nat) : rd l (i : Int) = l.getD i 0 := by simp [rd]
theorem getD_lt (l : List Int) (i : Nat) (h : i < l.length) : l.getD i 0 = l[i] := by simp [List.getD_eq_getElem?_getD, h]

theorem laws_toInt64S_run (x0 : List Int) (hn : x0.length ≤ 140737488351232) (d : Nat) : ∀ (k i : Nat) (x3 : List Int), i + d = x0.length → x3.length = x0.length → (∀ j, j < i → x3[j]? = x0[j]?) → d < k →
    laws_toInt64S.l0 k x0 x3 (i : Int) = some x0 := by
  induction d with
  | zero =>
    intro k i x3 hi hl hj hk
    obtain ⟨k, rfl⟩ : ∃ m, k = m + 1 := ⟨k - 1, by omega⟩
    simp only [laws_toInt64S.l0]
    rw [if_neg (by omega)]
    congr 1
    apply List.ext_getElem?
    intro j
    by_cases h : j < i
    · exact hj j h
    · rw [List.getElem?_eq_none (by omega), List.getElem?_eq_none (by omega)]
  | succ d ih =>
    intro k i x3 hi hl hj hk
    obtain ⟨k, rfl⟩ : ∃ m, k = m + 1 := ⟨k - 1, by omega⟩
    simp only [laws_toInt64S.l0]
    rw [if_pos (by omega), if_pos (by omega), if_pos (by omega), w64s i (by omega)]
    refine ih k (i + 1) _ (by omega) (by simpa using hl) ?_ (by omega)
    intro j hji
    rw [Int.toNat_natCast, rd_nat, List.getElem?_set]
    by_cases h : i = j
    · subst h
      rw [if_pos rfl, if_pos (by omega), getD_lt _ _ (by omega), List.getElem?_eq_getElem (by omega)]
    · rw [if_neg h]
      exact hj j (by omega)
theorem laws_toInt64S_f (l : List Int) (hn : l.length ≤ 1048576) (k : Nat) (hk : l.length < k) : laws_toInt64S.f k l = some l := by
  unfold laws_toInt64S.f
  rw [if_pos (by omega), if_pos (by omega)]
  exact laws_toInt64S_run l (by omega) l.length k 0 _ (by omega) (by simp) (fun j hj => by omega) hk

theorem laws_eqInt64S_run (x0 : List Int) (hn : x0.length ≤ 140737488351232) (d : Nat) : ∀ (k i : Nat), i + d = x0.length → d < k → laws_eqInt64S.l0 k x0 x0 (i : Int) = some true := by
  induction d with
  | zero =>
    intro k i hi hk
    obtain ⟨k, rfl⟩ : ∃ m, k = m + 1 := ⟨k - 1, by omega⟩
    simp only [laws_eqInt64S.l0]
    rw [if_neg (by omega)]
  | succ d ih =>
    intro k i hi hk
    obtain ⟨k, rfl⟩ : ∃ m, k = m + 1 := ⟨k - 1, by omega⟩
    simp only [laws_eqInt64S.l0]
    rw [if_pos (by omega), if_pos (by omega), if_pos (by omega), if_pos trivial, w64s i (by omega)]
    exact ih k (i + 1) (by omega) (by omega)
theorem laws_eqInt64S_f (l : List Int) (hn : l.length ≤ 140737488351232) (k : Nat) (hk : l.length < k) : laws_eqInt64S.f k l l = some true := by
  unfold laws_eqInt64S.f
  rw [if_pos rfl]
  exact laws_eqInt64S_run l hn l.length k 0 (by omega) hk

theorem sz_f (l : List Int) (m : Int) (hm0 : 0 ≤ m) (hm : m ≤ 1048576) (hl : l.length ≤ 9223372036854775807) : laws_szInt64S.f l m = some (if m - (l.length : Int) < 0 then -1 else m - (l.length : Int)) := by
  unfold laws_szInt64S.f
  rw [w64 _ (by omega) (by omega)]
  split <;> rfl
theorem eqOutcome_same (a b : Int) (l : List Int) (c : Int) (hl : l.length ≤ 1048576) (k : Nat) (hk : l.length < k) : laws_eqOutcome.f k a b l c a b l c = some true := by
  unfold laws_eqOutcome.f
  rw [if_pos rfl, if_pos rfl, laws_eqInt64S_f l (by omega) k hk, Option.bind_some, if_pos rfl, if_pos rfl]
theorem toOutcome_same (a b : Int) (l : List Int) (c : Int) (hl : l.length ≤ 1048576) (k : Nat) (hk : l.length < k) : laws_toOutcome.f k a b l c = some (a, b, l, c) := by
  unfold laws_toOutcome.f
  rw [laws_toInt64S_f l hl k hk, Option.bind_some]
theorem spec_run (a0 a1 a3 b0 b1 b3 : Int) (l m : List Int) (hm : m.length = l.length) (hl : l.length ≤ 1048576) (d : Nat) : ∀ i k : Nat, i + d = l.length → (∀ j, j < i → l[j]? = m[j]?) → d < k →
    spec_SameOutcome.l0 k (l.length : Int) (i : Int) a0 a1 l a3 b0 b1 m b3 = some (decide (l = m) && (decide (a0 = b0) && (a1 == b1)), true) := by
  induction d with
  | zero =>
    intro i k hi hj hk
    obtain ⟨k, rfl⟩ : ∃ m, k = m + 1 := ⟨k - 1, by omega⟩
    simp only [spec_SameOutcome.l0]
    have e : l = m := by
      apply List.ext_getElem?
      intro j
      by_cases h : j < i
      · exact hj j h
      · rw [List.getElem?_eq_none (by omega), List.getElem?_eq_none (by omega)]
    rw [if_neg (by omega), decide_eq_true e]
    by_cases h : a0 = b0
    · rw [if_pos h, decide_eq_true h]; rfl
    · rw [if_neg h, decide_eq_false h]; rfl
  | succ d ih =>
    intro i k hi hj hk
    obtain ⟨k, rfl⟩ : ∃ m, k = m + 1 := ⟨k - 1, by omega⟩
    simp only [spec_SameOutcome.l0]
    rw [if_pos (by omega), if_pos (by omega), if_pos (by omega), if_pos (by omega)]
    by_cases e : rd l (i : Int) = rd m (i : Int)
    · rw [if_pos e, w64s i (by omega)]
      refine ih (i + 1) k (by omega) (fun j hji => ?_) (by omega)
      by_cases h : j = i
      · subst h
        rw [rd_nat, rd_nat, getD_lt _ _ (by omega), getD_lt _ _ (by omega)] at e
        rw [List.getElem?_eq_getElem (by omega), List.getElem?_eq_getElem (by omega), e]
      · exact hj j (by omega)
    · rw [if_neg e, decide_eq_false (fun h => e (by rw [h]))]; rfl
theorem equal_run (l m : List Int) (hm : m.length = l.length) (hl : l.length ≤ 1048576) (d : Nat) : ∀ i k : Nat, i + d = l.length → (∀ j, j < i → l[j]? = m[j]?) → d < k →
    slices_Equal_int64_int64.l0 k l m (l.length : Int) (i : Int) = some (decide (l = m)) := by
  induction d with
  | zero =>
    intro i k hi hj hk
    obtain ⟨k, rfl⟩ : ∃ m, k = m + 1 := ⟨k - 1, by omega⟩
    simp only [slices_Equal_int64_int64.l0]
    have e : l = m := by
      apply List.ext_getElem?
      intro j
      by_cases h : j < i
      · exact hj j h
      · rw [List.getElem?_eq_none (by omega), List.getElem?_eq_none (by omega)]
    rw [if_neg (by omega), decide_eq_true e]
  | succ d ih =>
    intro i k hi hj hk
    obtain ⟨k, rfl⟩ : ∃ m, k = m + 1 := ⟨k - 1, by omega⟩
    simp only [slices_Equal_int64_int64.l0]
    have c1 : (i : Int) < (l.length : Int) := by omega
    have c2 : (i : Int) < (m.length : Int) := by omega
    have c3 : 0 ≤ (i : Int) := by omega
    simp only [if_pos c1, if_pos c2, if_pos c3]
    by_cases e : rd l (i : Int) = rd m (i : Int)
    · rw [if_pos e, w64s i (by omega)]
      refine ih (i + 1) k (by omega) (fun j hji => ?_) (by omega)
      by_cases h : j = i
      · subst h
        rw [rd_nat, rd_nat, getD_lt _ _ (by omega), getD_lt _ _ (by omega)] at e
        rw [List.getElem?_eq_getElem (by omega), List.getElem?_eq_getElem (by omega), e]
      · exact hj j (by omega)
    · rw [if_neg e, decide_eq_false (fun h => e (by rw [h]))]
theorem equal_f (l m : List Int) (hl : l.length ≤ 1048576) (hm : m.length = l.length) (k : Nat) (hk : l.length < k) : slices_Equal_int64_int64.f k l m = some (decide (l = m)) := by
  unfold slices_Equal_int64_int64.f
  rw [if_pos (by omega)]
  exact equal_run l m hm hl l.length 0 k (by omega) (fun j hj => by omega) hk
theorem out_same (a b : Int) (l : List Int) (c : Int) : spec_l12Outcome.f a b l c = some (decide (1 ≤ a ∧ a ≤ 3 ∧ l.length = 8)) ∧ impl_outcomeOK.f a b l c = some (decide (1 ≤ a ∧ a ≤ 3 ∧ l.length = 8)) := by
  unfold spec_l12Outcome.f impl_outcomeOK.f spec_l1In.f impl_within.f
  by_cases h0 : a ≥ 1
  · simp only [if_pos h0, Option.bind_some]
    by_cases h1 : a ≤ 3
    · simp only [decide_eq_true h1, if_true]
      have : ((l.length : Int) == 8) = decide (1 ≤ a ∧ a ≤ 3 ∧ l.length = 8) := by
        rw [Bool.eq_iff_iff]; simp; omega
      rw [this]; exact ⟨rfl, rfl⟩
    · have : decide (1 ≤ a ∧ a ≤ 3 ∧ l.length = 8) = false := decide_eq_false (by omega)
      simp only [decide_eq_false h1, this]; exact ⟨rfl, rfl⟩
  · have : decide (1 ≤ a ∧ a ≤ 3 ∧ l.length = 8) = false := decide_eq_false (by omega)
    simp only [if_neg h0, Option.bind_some, this]; exact ⟨rfl, rfl⟩
theorem same_key (a0 a1 a3 b0 b1 b3 : Int) (l m : List Int) (hl : l.length ≤ 1048576) (k : Nat) (hk : l.length + 1 < k) : ∃ p, spec_SameOutcome.f k a0 a1 l a3 b0 b1 m b3 = some p ∧ impl_SameOutcome.f k a0 a1 l a3 b0 b1 m b3 = some p := by
  obtain ⟨k, rfl⟩ : ∃ m, k = m + 1 := ⟨k - 1, by omega⟩
  unfold spec_SameOutcome.f impl_SameOutcome.f
  simp only [(out_same _ _ _ _).1, (out_same _ _ _ _).2, Option.bind_some]
  by_cases h1 : 1 ≤ a0 ∧ a0 ≤ 3 ∧ l.length = 8
  · by_cases h2 : 1 ≤ b0 ∧ b0 ≤ 3 ∧ m.length = 8
    · simp only [decide_eq_true h1, decide_eq_true h2, if_true, Bool.not_true, spec_SameOutcome.j0, Bool.false_eq_true, if_false]
      have hs := spec_run a0 a1 a3 b0 b1 b3 l m (by omega) hl l.length 0 k (by omega) (fun j hj => by omega) (by omega)
      have he := equal_f l m hl (by omega) (k + 1) (by omega)
      refine ⟨_, hs, ?_⟩
      by_cases e0 : a0 = b0
      · rw [if_pos e0, decide_eq_true e0]
        by_cases e1 : a1 = b1
        · rw [if_pos e1, he, Option.bind_some]; simp [e1]
        · rw [if_neg e1]; simp [e1]
      · rw [if_neg e0, decide_eq_false e0]; simp
    · simp only [decide_eq_true h1, decide_eq_false h2, if_true, Bool.not_false, spec_SameOutcome.j0]
      exact ⟨_, rfl, rfl⟩
  · simp only [decide_eq_false h1, Bool.false_eq_true, if_false, spec_SameOutcome.j0, if_true]
    exact ⟨_, rfl, rfl⟩
theorem FnExactSameOutcome : RdFnExactSameOutcome.Pure := by
  intro x y _ hx _ hy
  obtain ⟨a0, a1, l, a3⟩ := x
  obtain ⟨b0, b1, m, b3⟩ := y
  simp only at hx hy ⊢
  refine ⟨l.length + m.length + 3, ?_⟩
  unfold laws_FnExactSameOutcome.f laws_szOutcome.f
  rw [sz_f l 1048576 (by omega) (by omega) hx, Option.bind_some]
  by_cases h : (1048576 : Int) - (l.length : Int) < 0
  · simp only [if_pos h, Option.bind_some]; rfl
  · have hl : l.length ≤ 1048576 := by omega
    simp only [if_neg h, Option.bind_some]
    rw [sz_f m _ (by omega) (by omega) hy]
    by_cases h' : (1048576 : Int) - (l.length : Int) - (m.length : Int) < 0
    · simp only [if_pos h', Option.bind_some]; rfl
    · have hm : m.length ≤ 1048576 := by omega
      simp only [if_neg h', Option.bind_some]
      have t1 := toOutcome_same a0 a1 l a3 hl (l.length + m.length + 3) (by omega)
      have t2 := toOutcome_same b0 b1 m b3 hm (l.length + m.length + 3) (by omega)
      have t1' := toOutcome_same a0 a1 l a3 hl (l.length + m.length + 2) (by omega)
      have t2' := toOutcome_same b0 b1 m b3 hm (l.length + m.length + 2) (by omega)
      have e1 := eqOutcome_same a0 a1 l a3 hl (l.length + m.length + 2) (by omega)
      have e2 := eqOutcome_same b0 b1 m b3 hm (l.length + m.length + 2) (by omega)
      obtain ⟨p, p1, p2⟩ := same_key a0 a1 a3 b0 b1 b3 l m hl (l.length + m.length + 3) (by omega)
      simp only [t1, t2, p1, p2, Option.bind_some, bne_self_eq_false, Bool.false_eq_true, if_false]
      simp only [laws_FnExactSameOutcome.j0, t1', t2', e1, e2, Option.bind_some, if_true, Bool.false_eq_true, if_false]

end Go.Proofs.Ytcckpcgmpmlioaa.Pure
