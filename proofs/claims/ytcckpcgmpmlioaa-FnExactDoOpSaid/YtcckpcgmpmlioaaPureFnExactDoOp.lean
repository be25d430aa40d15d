/- The program's DoOp and the reference's answer alike at every number and list; no condition. -/
import Derived.Test.YtcckpcgmpmlioaaPFnExactDoOpx3
import Derived.Test.YtcckpcgmpmlioaaWSized
set_option linter.unusedVariables false
set_option linter.unusedSimpArgs false
namespace Go.Proofs.Ytcckpcgmpmlioaa.Pure
open Go.RowKit Go.Proofs.Ytcckpcgmpmlioaa.PFnExactDoOp Go.Proofs.YtcckpcgmpmlioaaW.PrintWords Go.Proofs.YtcckpcgmpmlioaaW.PrintLast

theorem w64 (x : Int) (h0 : -9223372036854775808 ≤ x) (h1 : x ≤ 9223372036854775807) : wrap64 x = x := by unfold wrap64; omega
theorem w64s (i : Nat) (h : i ≤ 140737488355328) : wrap64 ((i : Int) + 1) = ((i + 1 : Nat) : Int) := by rw [w64 _ (by omega) (by omega)]; omega
theorem rd_nat (l : List Int) (i : Nat) : rd l (i : Int) = l.getD i 0 := by simp [rd]
theorem getD_lt (l : List Int) (i : Nat) (h : i < l.length) : l.getD i 0 = l[i] := by simp [List.getD_eq_getElem?_getD, h]

theorem laws_toInt64S_run (x0 : List Int) (hn : x0.length ≤ 140737488351232) (d : Nat) : ∀ (k i : Nat) (x3 : List Int), i + d = x0.length → x3.length = x0.length → (∀ j, j < i → x3[j]? = x0[j]?) → d < k →
    laws_toInt64S.l0 k x0 x3 (i : Int) = some x0 := by
  induction d with
  | zero =>
    intro k i x3 hi hl hj hk
    obtain ⟨k, rfl⟩ : ∃ m, k = m + 1 := ⟨k - 1, by omega⟩
    simp only [laws_toInt64S.l0]
    rw [if_neg (by omega)]
    congr 1
    apply List.ext_getElem?
    intro j
    by_cases h : j < i
    · exact hj j h
    · rw [List.getElem?_eq_none (by omega), List.getElem?_eq_none (by omega)]
  | succ d ih =>
    intro k i x3 hi hl hj hk
    obtain ⟨k, rfl⟩ : ∃ m, k = m + 1 := ⟨k - 1, by omega⟩
    simp only [laws_toInt64S.l0]
    rw [if_pos (by omega), if_pos (by omega), if_pos (by omega), w64s i (by omega)]
    refine ih k (i + 1) _ (by omega) (by simpa using hl) ?_ (by omega)
    intro j hji
    rw [Int.toNat_natCast, rd_nat, List.getElem?_set]
    by_cases h : i = j
    · subst h
      rw [if_pos rfl, if_pos (by omega), getD_lt _ _ (by omega), List.getElem?_eq_getElem (by omega)]
    · rw [if_neg h]
      exact hj j (by omega)
theorem laws_toInt64S_f (l : List Int) (hn : l.length ≤ 1048576) (k : Nat) (hk : l.length < k) : laws_toInt64S.f k l = some l := by
  unfold laws_toInt64S.f
  rw [if_pos (by omega), if_pos (by omega)]
  exact laws_toInt64S_run l (by omega) l.length k 0 _ (by omega) (by simp) (fun j hj => by omega) hk

theorem laws_eqInt64S_run (x0 : List Int) (hn : x0.length ≤ 140737488351232) (d : Nat) : ∀ (k i : Nat), i + d = x0.length → d < k → laws_eqInt64S.l0 k x0 x0 (i : Int) = some true := by
  induction d with
  | zero =>
    intro k i hi hk
    obtain ⟨k, rfl⟩ : ∃ m, k = m + 1 := ⟨k - 1, by omega⟩
    simp only [laws_eqInt64S.l0]
    rw [if_neg (by omega)]
  | succ d ih =>
    intro k i hi hk
    obtain ⟨k, rfl⟩ : ∃ m, k = m + 1 := ⟨k - 1, by omega⟩
    simp only [laws_eqInt64S.l0]
    rw [if_pos (by omega), if_pos (by omega), if_pos (by omega), if_pos trivial, w64s i (by omega)]
    exact ih k (i + 1) (by omega) (by omega)
theorem laws_eqInt64S_f (l : List Int) (hn : l.length ≤ 140737488351232) (k : Nat) (hk : l.length < k) : laws_eqInt64S.f k l l = some true := by
  unfold laws_eqInt64S.f
  rw [if_pos rfl]
  exact laws_eqInt64S_run l hn l.length k 0 (by omega) hk

theorem and63 (x : Int) : IntKind.u64.wrap (Go.bits .and .i64 x 63) = Int.tmod (IntKind.u64.wrap x) 64 := by
  have h : Go.bits .and .i64 x 63 = (x % 18446744073709551616) % 64 := by
    have e : ((BitVec.ofInt 64 x &&& BitVec.ofInt 64 63).toNat : Int) = (x % 18446744073709551616) % 64 := by
      rw [BitVec.toNat_and]
      have : (BitVec.ofInt 64 63).toNat = 2 ^ 6 - 1 := by decide
      rw [this, Nat.and_two_pow_sub_one_eq_mod, BitVec.toNat_ofInt]
      omega
    show IntKind.i64.wrap ((BitVec.ofInt 64 x &&& BitVec.ofInt 64 63).toNat : Int) = _
    rw [e]
    simp only [IntKind.wrap, IntKind.bits, IntKind.signed]
    simp
    omega
  rw [h]
  simp only [IntKind.wrap, IntKind.bits, IntKind.signed]
  simp
  rw [Int.tmod_eq_emod_of_nonneg (by omega)]
  omega

theorem div_m1 (a : Int) : Int.tdiv a (-1) = -a := by simp
theorem do_same (a : Int) (l : List Int) : spec_l1Do.f a l = impl_doOp.f a l := by
  unfold spec_l1Do.f impl_doOp.f
  simp only [spec_l1Bool.f, impl_oneIf.f, and63]
  by_cases h8 : a = 8
  · subst h8
    simp only [if_neg (show ¬ (8 : Int) = 3 by omega), if_neg (show ¬ (8 : Int) = 4 by omega), if_neg (show ¬ (8 : Int) = 5 by omega), if_neg (show ¬ (8 : Int) = 6 by omega), if_neg (show ¬ (8 : Int) = 7 by omega), if_pos]
    by_cases h1 : 1 < (l.length : Int)
    · rw [if_pos h1, if_pos h1]
      by_cases h2 : rd l 1 = 0
      · rw [if_pos h2, if_pos h2]
      · rw [if_neg h2, if_neg h2, if_pos (by omega), if_pos (by omega)]
        unfold spec_l1Div.f
        by_cases h3 : rd l 1 = -1
        · rw [if_pos h3, h3, div_m1]; rfl
        · rw [if_neg h3, if_neg h2]; rfl
    · rw [if_neg h1, if_neg h1]
  · simp only [if_neg h8]
theorem do_some (a : Int) (l : List Int) (n : Int) (hn : (l.length : Int) = n) (h : (a = 3 ∧ n = 1) ∨ (a = 11 ∧ n = 3) ∨ (4 ≤ a ∧ a ≤ 10 ∧ n = 2)) : ∃ p, impl_doOp.f a l = some p := by
  rcases h with ⟨rfl, rfl⟩ | ⟨rfl, rfl⟩ | ⟨h4, h10, rfl⟩
  · unfold impl_doOp.f
    rw [if_pos rfl, if_pos (by omega)]; exact ⟨_, rfl⟩
  · unfold impl_doOp.f
    simp only [if_neg (show ¬ (11 : Int) = 3 by omega), if_neg (show ¬ (11 : Int) = 4 by omega), if_neg (show ¬ (11 : Int) = 5 by omega), if_neg (show ¬ (11 : Int) = 6 by omega), if_neg (show ¬ (11 : Int) = 7 by omega), if_neg (show ¬ (11 : Int) = 8 by omega), if_neg (show ¬ (11 : Int) = 9 by omega), if_neg (show ¬ (11 : Int) = 10 by omega)]
    rw [if_pos (by omega)]
    split
    · rw [if_pos (by omega)]; exact ⟨_, rfl⟩
    · rw [if_pos (by omega)]; exact ⟨_, rfl⟩
  · have c0 : 0 < (l.length : Int) := by omega
    have c1 : 1 < (l.length : Int) := by omega
    have : a = 4 ∨ a = 5 ∨ a = 6 ∨ a = 7 ∨ a = 8 ∨ a = 9 ∨ a = 10 := by omega
    unfold impl_doOp.f impl_oneIf.f
    simp only [if_pos c0, if_pos c1]
    have t0 : 0 ≤ Int.tmod (IntKind.u64.wrap (rd l 1)) 64 := by rw [← and63]; simp [IntKind.wrap, IntKind.bits, IntKind.signed]; omega
    rw [if_pos t0]
    rcases this with rfl | rfl | rfl | rfl | rfl | rfl | rfl
    · exact ⟨_, rfl⟩
    · exact ⟨_, rfl⟩
    · exact ⟨_, rfl⟩
    · exact ⟨_, rfl⟩
    · simp only [if_neg (show ¬ (8 : Int) = 3 by omega), if_neg (show ¬ (8 : Int) = 4 by omega), if_neg (show ¬ (8 : Int) = 5 by omega), if_neg (show ¬ (8 : Int) = 6 by omega), if_neg (show ¬ (8 : Int) = 7 by omega), if_pos]
      split <;> exact ⟨_, rfl⟩
    · simp only [if_neg (show ¬ (9 : Int) = 3 by omega), if_neg (show ¬ (9 : Int) = 4 by omega), if_neg (show ¬ (9 : Int) = 5 by omega), if_neg (show ¬ (9 : Int) = 6 by omega), if_neg (show ¬ (9 : Int) = 7 by omega), if_neg (show ¬ (9 : Int) = 8 by omega), if_pos]
      split <;> exact ⟨_, rfl⟩
    · simp only [if_neg (show ¬ (10 : Int) = 3 by omega), if_neg (show ¬ (10 : Int) = 4 by omega), if_neg (show ¬ (10 : Int) = 5 by omega), if_neg (show ¬ (10 : Int) = 6 by omega), if_neg (show ¬ (10 : Int) = 7 by omega), if_neg (show ¬ (10 : Int) = 8 by omega), if_neg (show ¬ (10 : Int) = 9 by omega), if_pos]
      split <;> exact ⟨_, rfl⟩

theorem ar (a : Int) (k : Nat) (h3 : 3 ≤ a) (h11 : a ≤ 11) : ∃ n, spec_l1Arity.f (k + 1) a = some n ∧ impl_arity.f (k + 1) a = some n ∧ ((a = 3 ∧ n = 1) ∨ (a = 11 ∧ n = 3) ∨ (4 ≤ a ∧ a ≤ 10 ∧ n = 2)) := by
  have : a = 3 ∨ a = 4 ∨ a = 5 ∨ a = 6 ∨ a = 7 ∨ a = 8 ∨ a = 9 ∨ a = 10 ∨ a = 11 := by omega
  rcases this with rfl | rfl | rfl | rfl | rfl | rfl | rfl | rfl | rfl <;> exact ⟨_, rfl, rfl, by simp⟩
theorem do_key (a : Int) (l : List Int) : ∃ p, ∀ k, 0 < k → spec_DoOp.f k a l = some p ∧ impl_DoOp.f k a l = some p := by
  unfold spec_DoOp.f impl_DoOp.f spec_l1In.f impl_within.f
  by_cases h0 : a ≥ 3
  · rw [if_pos h0]
    by_cases h1 : a ≤ 11
    · simp only [decide_eq_true h1, Option.bind_some, if_true]
      obtain ⟨n, _, _, hn⟩ := ar a 0 h0 h1
      by_cases hl : (l.length : Int) = n
      · obtain ⟨p, hp⟩ := do_some a l n hl hn
        refine ⟨(p.1, p.2, true), fun k hk => ?_⟩
        obtain ⟨k, rfl⟩ : ∃ m, k = m + 1 := ⟨k - 1, by omega⟩
        obtain ⟨n', e1, e2, hn'⟩ := ar a k h0 h1
        have : n' = n := by omega
        subst this
        simp only [e1, e2, Option.bind_some, if_pos hl, do_same, hp]
        exact ⟨trivial, trivial⟩
      · refine ⟨(0, false, false), fun k hk => ?_⟩
        obtain ⟨k, rfl⟩ : ∃ m, k = m + 1 := ⟨k - 1, by omega⟩
        obtain ⟨n', e1, e2, hn'⟩ := ar a k h0 h1
        have : n' = n := by omega
        subst this
        simp only [e1, e2, Option.bind_some, if_neg hl]
        exact ⟨trivial, trivial⟩
    · simp only [decide_eq_false h1, Option.bind_some]; exact ⟨_, fun k _ => ⟨rfl, rfl⟩⟩
  · rw [if_neg h0]; exact ⟨_, fun k _ => ⟨rfl, rfl⟩⟩
theorem FnExactDoOp : laws_FnExactDoOp.Pure := by
  intro a l _ _ _ _
  refine ⟨l.length + 2, ?_⟩
  unfold laws_FnExactDoOp.f
  by_cases h : (l.length : Int) > 1048576
  · rw [if_pos h]
  · have hn : l.length ≤ 1048576 := by omega
    rw [if_neg h]
    have e1 := laws_toInt64S_f l hn (l.length + 2) (by omega)
    have e1' := laws_toInt64S_f l hn (l.length + 1) (by omega)
    have e4 := laws_eqInt64S_f l (by omega) (l.length + 1) (by omega)
    obtain ⟨p, hp⟩ := do_key a l
    obtain ⟨p1, p2⟩ := hp (l.length + 2) (by omega)
    simp only [e1, p1, p2, Option.bind_some, if_true, bne_self_eq_false]
    simp only [laws_FnExactDoOp.j0, e1', e4, Option.bind_some, if_true]
    rfl

end Go.Proofs.Ytcckpcgmpmlioaa.Pure
namespace Go.Proofs.Ytcckpcgmpmlioaa.PrintWords
/-- The name by which the printed row asks for it. -/
theorem sized_ints {H : Type} {enc : TypeId × Value → H} {P : Program} {W : World} {base : Nat} {spare : Nat → Bool} {held : Bool} {t e : TypeId} {k : IntKind} {a : Option Addr} {len cap : Nat} {d : DataW H} {ps : List MemPlace} {ts : List TypeId} {ds : List (DataW H)} {j : Nat}
    (hsz : (DataW.weightsEach P ts ds).all (· ≤ reachBytes) = true) (ht : ts[j]? = some t) (hd : ds[j]? = some d) (hu : P.underlying t = some (.slice e)) (he : P.underlying e = some (.int k)) (hc : P.cellsOf e = 1) {B : Nat} (hB : P.bytesOf e = B)
    (h : DataW.Trod enc P W base spare held t (.slice a len cap) d ps) : len * B ≤ 140737488351232 := Go.Proofs.YtcckpcgmpmlioaaW.PrintWords.sized_ints hsz ht hd hu he hc hB h
end Go.Proofs.Ytcckpcgmpmlioaa.PrintWords
