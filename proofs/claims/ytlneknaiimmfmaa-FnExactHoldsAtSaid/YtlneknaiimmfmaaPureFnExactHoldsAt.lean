/- The program's HoldsAt and the reference's answer alike at every rule and all numbers; no condition. -/
import Derived.Test.YtlneknaiimmfmaaPFnExactHoldsAtx7
import Derived.Test.YtlneknaiimmfmaaRdFnExactHoldsAt
set_option linter.unusedVariables false
set_option linter.unusedSimpArgs false
namespace Go.Proofs.Ytlneknaiimmfmaa.Pure
open Go.RowKit Go.Proofs.Ytlneknaiimmfmaa.PFnExactHoldsAt Go.Proofs.YtlneknaiimmfmaaW.PrintWords Go.Proofs.YtlneknaiimmfmaaW.PrintLast Go.Proofs.YtlneknaiimmfmaaW.PrintMore

theorem wn64s (i : Nat) (h : i ≤ 140737488355328) : wrap64 ((i : Int) + 1) = ((i + 1 : Nat) : Int) := by unfold wrap64; omega
def cvN (x : S90) : S87 := ⟨x.f0, x.f1⟩
theorem rdN_nat (l : List S87) (i : Nat) : rd_T87 l (i : Int) = l.getD i z87 := by simp [rd_T87]
theorem szN_f (l : List S90) (m : Int) (hm0 : 0 ≤ m) (hm : m ≤ 1048576) (hl : l.length ≤ 9223372036854775807) : laws_szNodeS.f l m = some (if m - (l.length : Int) < 0 then -1 else m - (l.length : Int)) := by
  unfold laws_szNodeS.f
  have e : wrap64 (m - (l.length : Int)) = m - (l.length : Int) := by unfold wrap64; omega
  rw [e]
  split <;> rfl
theorem toN_run (x0 : List S90) (hn : x0.length ≤ 140737488351232) (d : Nat) : ∀ (k i : Nat) (x3 : List S87), i + d = x0.length → x3.length = x0.length → (∀ j, j < i → x3[j]? = (x0.map cvN)[j]?) → d < k →
    laws_toNodeS.l0 k x0 x3 (i : Int) = some (x0.map cvN) := by
  induction d with
  | zero =>
    intro k i x3 hi hl hj hk
    obtain ⟨k, rfl⟩ : ∃ m, k = m + 1 := ⟨k - 1, by omega⟩
    simp only [laws_toNodeS.l0]
    rw [if_neg (by omega)]
    congr 1
    apply List.ext_getElem?
    intro j
    by_cases h : j < i
    · exact hj j h
    · rw [List.getElem?_eq_none (by omega), List.getElem?_eq_none (by rw [List.length_map]; omega)]
  | succ d ih =>
    intro k i x3 hi hl hj hk
    obtain ⟨k, rfl⟩ : ∃ m, k = m + 1 := ⟨k - 1, by omega⟩
    simp only [laws_toNodeS.l0, laws_toNode.f, Option.bind_some]
    rw [if_pos (by omega), if_pos (by omega), if_pos (by omega), wn64s i (by omega)]
    refine ih k (i + 1) _ (by omega) (by simpa using hl) ?_ (by omega)
    intro j hji
    rw [Int.toNat_natCast, List.getElem?_set]
    by_cases h : i = j
    · subst h
      rw [if_pos rfl, if_pos (by omega), List.getElem?_map, List.getElem?_eq_getElem (by omega)]
      simp [rd_T90, cvN, List.getD_eq_getElem?_getD, List.getElem?_eq_getElem (show i < x0.length by omega)]
    · rw [if_neg h]
      exact hj j (by omega)
theorem toN_f (l : List S90) (hn : l.length ≤ 1048576) (k : Nat) (hk : l.length < k) : laws_toNodeS.f k l = some (l.map cvN) := by
  unfold laws_toNodeS.f
  rw [if_pos (by omega), if_pos (by omega)]
  exact toN_run l (by omega) l.length k 0 _ (by omega) (by simp) (fun j hj => by omega) hk
theorem eqN_run (x0 : List S87) (hn : x0.length ≤ 140737488351232) (d : Nat) : ∀ (k i : Nat), i + d = x0.length → d < k → laws_eqNodeS.l0 k x0 x0 (i : Int) = some true := by
  induction d with
  | zero =>
    intro k i hi hk
    obtain ⟨k, rfl⟩ : ∃ m, k = m + 1 := ⟨k - 1, by omega⟩
    simp only [laws_eqNodeS.l0]
    rw [if_neg (by omega)]
  | succ d ih =>
    intro k i hi hk
    obtain ⟨k, rfl⟩ : ∃ m, k = m + 1 := ⟨k - 1, by omega⟩
    simp only [laws_eqNodeS.l0, laws_eqNode.f]
    rw [if_pos (by omega), if_pos (by omega), if_pos (by omega), if_pos trivial, if_pos trivial, Option.bind_some, if_pos rfl, wn64s i (by omega)]
    exact ih k (i + 1) (by omega) (by omega)
theorem eqN_f (l : List S87) (hn : l.length ≤ 140737488351232) (k : Nat) (hk : l.length < k) : laws_eqNodeS.f k l l = some true := by
  unfold laws_eqNodeS.f
  rw [if_pos rfl]
  exact eqN_run l hn l.length k 0 (by omega) hk

theorem specArity_f (k : Nat) (hk : 0 < k) (op : Int) : spec_l1Arity.f k op = some (if 1 ≤ op ∧ op ≤ 11 then Tree.arity op else -1) := by
  obtain ⟨k, rfl⟩ : ∃ m, k = m + 1 := ⟨k - 1, by omega⟩
  unfold spec_l1Arity.f Tree.arity
  by_cases h1 : op = 1
  · subst h1; rfl
  · rw [if_neg h1]
    by_cases h2 : op = 2
    · subst h2; rfl
    · rw [if_neg (by omega : ¬ (op = 1 ∨ op = 2))]
      simp only [spec_l1Arity.j0]
      rw [if_neg (by simpa using h2)]
      by_cases h3 : op = 3
      · subst h3; rfl
      · rw [if_neg h3, if_neg h3]
        by_cases h4 : op = 11
        · subst h4; rfl
        · rw [if_neg h4, if_neg h4]
          unfold spec_l1In.f
          by_cases h5 : op ≥ 4
          · by_cases h6 : op ≤ 10
            · rw [if_pos h5, Option.bind_some, decide_eq_true h6, if_pos rfl, if_pos (by omega)]
            · rw [if_pos h5, Option.bind_some, decide_eq_false h6, if_neg (by simp), if_neg (by omega)]
          · rw [if_neg h5, Option.bind_some, if_neg (by simp), if_neg (by omega)]
/-- How many trees a list of nodes leaves. -/
def goodB (r : Option (List Tree.Tr × List Tree.Tr)) : Bool := match r with | some s => s.1.length == 1 | none => false
theorem specGood_run (t : List S87) (hn : t.length ≤ 1048576) (d : Nat) : ∀ (k i : Nat) (s : List Tree.Tr × List Tree.Tr), i + d = t.length → Tree.build (toP (t.take i)) ([], []) = some s → d + 1 < k →
    spec_GoodTerm.l0 k (s.1.length : Int) t (t.length : Int) (i : Int) = some (goodB (Tree.build (toP t) ([], []))) := by
  induction d with
  | zero =>
    intro k i s hi hs hk
    obtain ⟨k, rfl⟩ : ∃ m, k = m + 1 := ⟨k - 1, by omega⟩
    simp only [spec_GoodTerm.l0]
    have e : t.take i = t := List.take_of_length_le (by omega)
    rw [e] at hs
    rw [if_neg (by omega), hs]
    show some ((s.1.length : Int) == 1) = some (s.1.length == 1)
    congr 1
    rw [Bool.eq_iff_iff]; simp; omega
  | succ d ih =>
    intro k i s hi hs hk
    obtain ⟨k, rfl⟩ : ∃ m, k = m + 1 := ⟨k - 1, by omega⟩
    simp only [spec_GoodTerm.l0]
    rw [if_pos (by omega), if_pos (by omega), if_pos (by omega), specArity_f k (by omega), Option.bind_some, wn64s i (by omega), rdN_nat]
    have hlen := (Tree.build_len _ _ _ hs).1
    rw [toP_len, List.length_take] at hlen
    have hl2 : s.1.length ≤ t.length := by simp at hlen; omega
    have hsucc := build_succ t i (by omega) hs
    have hfail := build_fail t i (by omega) hs
    generalize t.getD i z87 = x at hsucc hfail ⊢
    obtain ⟨op, n⟩ := x
    simp only at hsucc hfail ⊢
    have hr := Tree.arity_range op
    have hbad : (Tree.numOK op n = true ∧ Tree.arity op ≤ (s.1.length : Int)) → False → True := fun _ _ => trivial
    by_cases hst : Tree.numOK op n = true ∧ Tree.arity op ≤ (s.1.length : Int)
    · have hstep : Tree.step s (op, n) = some (s.1.take (s.1.length - (Tree.arity op).toNat) ++ [.mk op n (s.1.drop (s.1.length - (Tree.arity op).toNat))], s.2 ++ [.mk op n (s.1.drop (s.1.length - (Tree.arity op).toNat))]) := if_pos hst
      rw [hstep] at hsucc
      have hgo := ih k (i + 1) _ (by omega) hsucc (by omega)
      have hlen' : (((s.1.take (s.1.length - (Tree.arity op).toNat) ++ [Tree.Tr.mk op n (s.1.drop (s.1.length - (Tree.arity op).toNat))]).length : Nat) : Int) = wrap64 ((s.1.length : Int) + wrap64 (1 - Tree.arity op)) := by
        rw [List.length_append, List.length_take, List.length_singleton]
        unfold wrap64
        omega
      simp only [hlen'] at hgo
      obtain ⟨hN, hA⟩ := hst
      unfold Tree.numOK at hN
      have hop : 1 ≤ op ∧ op ≤ 11 := by
        by_cases h1 : op = 1
        · omega
        · rw [if_neg h1] at hN
          by_cases h2 : op = 2
          · omega
          · rw [if_neg h2] at hN
            have := of_decide_eq_true hN
            omega
      rw [if_pos hop, if_neg (by omega), if_neg (by omega)]
      by_cases h2 : op = 2
      · subst h2
        rw [if_neg (by omega), if_pos rfl] at hN
        have hN := of_decide_eq_true hN
        rw [if_pos rfl, if_neg (by omega), if_neg (by omega), if_neg (by decide)]
        exact hgo
      · rw [if_neg h2]
        by_cases h1 : op = 1
        · subst h1
          rw [if_neg (by decide)]
          exact hgo
        · rw [if_neg h1, if_neg h2] at hN
          have hN := of_decide_eq_true hN
          have hpos : Tree.arity op > 0 := by
            unfold Tree.arity
            rw [if_neg (by omega)]
            split
            · omega
            · split <;> omega
          rw [if_pos hpos, if_pos hN.2.2]
          exact hgo
    · rw [hfail (if_neg hst)]
      show _ = some false
      by_cases hop : 1 ≤ op ∧ op ≤ 11
      · rw [if_pos hop, if_neg (by omega)]
        by_cases ha : (s.1.length : Int) < Tree.arity op
        · rw [if_pos ha]
        · rw [if_neg ha]
          have hN : ¬ Tree.numOK op n = true := fun h => hst ⟨h, by omega⟩
          unfold Tree.numOK at hN
          by_cases h2 : op = 2
          · subst h2
            rw [if_neg (by omega), if_pos rfl] at hN
            have hN : ¬ (0 ≤ n ∧ n < 4) := fun h => hN (decide_eq_true h)
            rw [if_pos rfl]
            by_cases hn0 : n < 0
            · rw [if_pos hn0]
            · rw [if_neg hn0, if_pos (by omega)]
          · rw [if_neg h2]
            by_cases h1 : op = 1
            · exact absurd (if_pos h1) hN
            · rw [if_neg h1, if_neg h2] at hN
              have hN : ¬ (1 ≤ op ∧ op ≤ 11 ∧ n = 0) := fun h => hN (decide_eq_true h)
              have hpos : Tree.arity op > 0 := by
                unfold Tree.arity
                rw [if_neg (by omega)]
                split
                · omega
                · split <;> omega
              rw [if_pos hpos, if_neg (by omega)]
      · rw [if_neg hop, if_pos (by omega)]
theorem treeOf_isSome (t : List (Int × Int)) : (Tree.treeOf t).isSome = (decide (1 ≤ t.length ∧ t.length ≤ 40) && goodB (Tree.build t ([], []))) := by
  unfold Tree.treeOf Tree.treesOf
  by_cases h : 1 ≤ t.length ∧ t.length ≤ 40
  · rw [if_pos h, decide_eq_true h, Bool.true_and]
    cases hb : Tree.build t ([], []) with
    | none => rfl
    | some s =>
      show (Option.bind (if s.1.length = 1 then some s.2 else none) List.getLast?).isSome = (s.1.length == 1)
      by_cases h1 : s.1.length = 1
      · have hl := (Tree.build_len _ _ _ hb).2
        rw [if_pos h1, Option.bind_some, h1]
        cases hs : s.2 with
        | nil => rw [hs] at hl; simp at hl; omega
        | cons a l => rw [List.getLast?_cons]; rfl
      · rw [if_neg h1]
        simp [h1]
  · rw [if_neg h, decide_eq_false h]; rfl
theorem specGood_f (t : List S87) (hn : t.length ≤ 1048576) (k : Nat) (hk : t.length + 1 < k) : spec_GoodTerm.f k t = some (Tree.treeOf (toP t)).isSome := by
  unfold spec_GoodTerm.f spec_l1In.f
  rw [treeOf_isSome, toP_len]
  by_cases h0 : 1 ≤ t.length
  · rw [if_pos (by omega), Option.bind_some]
    by_cases h1 : t.length ≤ 40
    · rw [decide_eq_true (by omega), if_pos rfl, decide_eq_true (⟨h0, h1⟩ : 1 ≤ t.length ∧ t.length ≤ 40), Bool.true_and]
      exact specGood_run t hn t.length k 0 ([], []) (by omega) rfl hk
    · rw [decide_eq_false (by omega), if_neg (by simp), decide_eq_false (by omega)]; rfl
  · rw [if_neg (by omega), Option.bind_some, if_neg (by simp), decide_eq_false (by omega)]; rfl

theorem specPat_f (t : List S87) (hn : t.length ≤ 1048576) (k : Nat) (hk : t.length + 1 < k) : spec_GoodPattern.f k t = impl_GoodPattern.f t := by
  unfold spec_GoodPattern.f impl_GoodPattern.f patTree
  rw [specGood_f t hn k hk, Option.bind_some]
  by_cases h : t.length ≤ 7
  · rw [if_pos h, decide_eq_true (by omega)]
    cases (Tree.treeOf (toP t)).isSome <;> rfl
  · rw [if_neg h, decide_eq_false (by omega)]
    cases (Tree.treeOf (toP t)).isSome <;> rfl

theorem szR_f (l m : List S90) (hl : l.length ≤ 9223372036854775807) (hm : m.length ≤ 9223372036854775807) : ∃ t, laws_szRule.f l m 1048576 = some t ∧ (t < 0 ∨ (l.length ≤ 1048576 ∧ m.length ≤ 1048576)) := by
  unfold laws_szRule.f
  rw [szN_f l 1048576 (by omega) (by omega) hl, Option.bind_some]
  by_cases h : (1048576 : Int) - (l.length : Int) < 0
  · rw [if_pos h, if_pos (by omega)]
    exact ⟨_, rfl, .inl (by omega)⟩
  · rw [if_neg h, if_neg h, szN_f m _ (by omega) (by omega) hm, Option.bind_some]
    by_cases h' : (1048576 : Int) - (l.length : Int) - (m.length : Int) < 0
    · rw [if_pos h', if_pos (by omega)]
      exact ⟨_, rfl, .inl (by omega)⟩
    · rw [if_neg h', if_neg h']
      exact ⟨_, rfl, .inr (by omega)⟩
theorem toR_f (l m : List S90) (hl : l.length ≤ 1048576) (hm : m.length ≤ 1048576) (k : Nat) (hk : l.length < k) (hk' : m.length < k) : laws_toRule.f k l m = some (l.map cvN, m.map cvN) := by
  unfold laws_toRule.f
  rw [toN_f l hl k hk, Option.bind_some, toN_f m hm k hk']
  rfl
theorem eqR_f (l m : List S87) (hl : l.length ≤ 140737488351232) (hm : m.length ≤ 140737488351232) (k : Nat) (hk : l.length < k) (hk' : m.length < k) : laws_eqRule.f k l m l m = some true := by
  unfold laws_eqRule.f
  rw [eqN_f l hl k hk, Option.bind_some, if_pos rfl, eqN_f m hm k hk']
  rfl

theorem w64 (x : Int) (h0 : -9223372036854775808 ≤ x) (h1 : x ≤ 9223372036854775807) : wrap64 x = x := by unfold wrap64; omega
theorem w64s (i : Nat) (h : i ≤ 140737488355328) : wrap64 ((i : Int) + 1) = ((i + 1 : Nat) : Int) := by rw [w64 _ (by omega) (by omega)]; omega
theorem rd_nat (l : List Int) (i : Nat) : rd l (i : Int) = l.getD i 0 := by simp [rd]
theorem getD_lt (l : List Int) (i : Nat) (h : i < l.length) : l.getD i 0 = l[i] := by simp [List.getD_eq_getElem?_getD, h]

theorem laws_toInt64S_run (x0 : List Int) (hn : x0.length ≤ 140737488351232) (d : Nat) : ∀ (k i : Nat) (x3 : List Int), i + d = x0.length → x3.length = x0.length → (∀ j, j < i → x3[j]? = x0[j]?) → d < k →
    laws_toInt64S.l0 k x0 x3 (i : Int) = some x0 := by
  induction d with
  | zero =>
    intro k i x3 hi hl hj hk
    obtain ⟨k, rfl⟩ : ∃ m, k = m + 1 := ⟨k - 1, by omega⟩
    simp only [laws_toInt64S.l0]
    rw [if_neg (by omega)]
    congr 1
    apply List.ext_getElem?
    intro j
    by_cases h : j < i
    · exact hj j h
    · rw [List.getElem?_eq_none (by omega), List.getElem?_eq_none (by omega)]
  | succ d ih =>
    intro k i x3 hi hl hj hk
    obtain ⟨k, rfl⟩ : ∃ m, k = m + 1 := ⟨k - 1, by omega⟩
    simp only [laws_toInt64S.l0]
    rw [if_pos (by omega), if_pos (by omega), if_pos (by omega), w64s i (by omega)]
    refine ih k (i + 1) _ (by omega) (by simpa using hl) ?_ (by omega)
    intro j hji
    rw [Int.toNat_natCast, rd_nat, List.getElem?_set]
    by_cases h : i = j
    · subst h
      rw [if_pos rfl, if_pos (by omega), getD_lt _ _ (by omega), List.getElem?_eq_getElem (by omega)]
    · rw [if_neg h]
      exact hj j (by omega)
theorem laws_toInt64S_f (l : List Int) (hn : l.length ≤ 1048576) (k : Nat) (hk : l.length < k) : laws_toInt64S.f k l = some l := by
  unfold laws_toInt64S.f
  rw [if_pos (by omega), if_pos (by omega)]
  exact laws_toInt64S_run l (by omega) l.length k 0 _ (by omega) (by simp) (fun j hj => by omega) hk

theorem laws_eqInt64S_run (x0 : List Int) (hn : x0.length ≤ 140737488351232) (d : Nat) : ∀ (k i : Nat), i + d = x0.length → d < k → laws_eqInt64S.l0 k x0 x0 (i : Int) = some true := by
  induction d with
  | zero =>
    intro k i hi hk
    obtain ⟨k, rfl⟩ : ∃ m, k = m + 1 := ⟨k - 1, by omega⟩
    simp only [laws_eqInt64S.l0]
    rw [if_neg (by omega)]
  | succ d ih =>
    intro k i hi hk
    obtain ⟨k, rfl⟩ : ∃ m, k = m + 1 := ⟨k - 1, by omega⟩
    simp only [laws_eqInt64S.l0]
    rw [if_pos (by omega), if_pos (by omega), if_pos (by omega), if_pos trivial, w64s i (by omega)]
    exact ih k (i + 1) (by omega) (by omega)
theorem laws_eqInt64S_f (l : List Int) (hn : l.length ≤ 140737488351232) (k : Nat) (hk : l.length < k) : laws_eqInt64S.f k l l = some true := by
  unfold laws_eqInt64S.f
  rw [if_pos rfl]
  exact laws_eqInt64S_run l hn l.length k 0 (by omega) hk

theorem and63 (x : Int) : IntKind.u64.wrap (Go.bits .and .i64 x 63) = Int.tmod (IntKind.u64.wrap x) 64 := by
  have h : Go.bits .and .i64 x 63 = (x % 18446744073709551616) % 64 := by
    have e : ((BitVec.ofInt 64 x &&& BitVec.ofInt 64 63).toNat : Int) = (x % 18446744073709551616) % 64 := by
      rw [BitVec.toNat_and]
      have : (BitVec.ofInt 64 63).toNat = 2 ^ 6 - 1 := by decide
      rw [this, Nat.and_two_pow_sub_one_eq_mod, BitVec.toNat_ofInt]
      omega
    show IntKind.i64.wrap ((BitVec.ofInt 64 x &&& BitVec.ofInt 64 63).toNat : Int) = _
    rw [e]
    simp only [IntKind.wrap, IntKind.bits, IntKind.signed]
    simp
    omega
  rw [h]
  simp only [IntKind.wrap, IntKind.bits, IntKind.signed]
  simp
  rw [Int.tmod_eq_emod_of_nonneg (by omega)]
  omega

theorem div_m1 (a : Int) : Int.tdiv a (-1) = -a := by simp
theorem do_same (a : Int) (l : List Int) : spec_l1Do.f a l = impl_doOp.f a l := by
  unfold spec_l1Do.f impl_doOp.f
  simp only [spec_l1Bool.f, impl_oneIf.f, and63]
  by_cases h8 : a = 8
  · subst h8
    simp only [if_neg (show ¬ (8 : Int) = 3 by omega), if_neg (show ¬ (8 : Int) = 4 by omega), if_neg (show ¬ (8 : Int) = 5 by omega), if_neg (show ¬ (8 : Int) = 6 by omega), if_neg (show ¬ (8 : Int) = 7 by omega), if_pos]
    by_cases h1 : 1 < (l.length : Int)
    · rw [if_pos h1, if_pos h1]
      by_cases h2 : rd l 1 = 0
      · rw [if_pos h2, if_pos h2]
      · rw [if_neg h2, if_neg h2, if_pos (by omega), if_pos (by omega)]
        unfold spec_l1Div.f
        by_cases h3 : rd l 1 = -1
        · rw [if_pos h3, h3, div_m1]; rfl
        · rw [if_neg h3, if_neg h2]; rfl
    · rw [if_neg h1, if_neg h1]
  · simp only [if_neg h8]
theorem do_some (a : Int) (l : List Int) (n : Int) (hn : (l.length : Int) = n) (h : (a = 3 ∧ n = 1) ∨ (a = 11 ∧ n = 3) ∨ (4 ≤ a ∧ a ≤ 10 ∧ n = 2)) : ∃ p, impl_doOp.f a l = some p := by
  rcases h with ⟨rfl, rfl⟩ | ⟨rfl, rfl⟩ | ⟨h4, h10, rfl⟩
  · unfold impl_doOp.f
    rw [if_pos rfl, if_pos (by omega)]; exact ⟨_, rfl⟩
  · unfold impl_doOp.f
    simp only [if_neg (show ¬ (11 : Int) = 3 by omega), if_neg (show ¬ (11 : Int) = 4 by omega), if_neg (show ¬ (11 : Int) = 5 by omega), if_neg (show ¬ (11 : Int) = 6 by omega), if_neg (show ¬ (11 : Int) = 7 by omega), if_neg (show ¬ (11 : Int) = 8 by omega), if_neg (show ¬ (11 : Int) = 9 by omega), if_neg (show ¬ (11 : Int) = 10 by omega)]
    rw [if_pos (by omega)]
    split
    · rw [if_pos (by omega)]; exact ⟨_, rfl⟩
    · rw [if_pos (by omega)]; exact ⟨_, rfl⟩
  · have c0 : 0 < (l.length : Int) := by omega
    have c1 : 1 < (l.length : Int) := by omega
    have : a = 4 ∨ a = 5 ∨ a = 6 ∨ a = 7 ∨ a = 8 ∨ a = 9 ∨ a = 10 := by omega
    unfold impl_doOp.f impl_oneIf.f
    simp only [if_pos c0, if_pos c1]
    have t0 : 0 ≤ Int.tmod (IntKind.u64.wrap (rd l 1)) 64 := by rw [← and63]; simp [IntKind.wrap, IntKind.bits, IntKind.signed]; omega
    rw [if_pos t0]
    rcases this with rfl | rfl | rfl | rfl | rfl | rfl | rfl
    · exact ⟨_, rfl⟩
    · exact ⟨_, rfl⟩
    · exact ⟨_, rfl⟩
    · exact ⟨_, rfl⟩
    · simp only [if_neg (show ¬ (8 : Int) = 3 by omega), if_neg (show ¬ (8 : Int) = 4 by omega), if_neg (show ¬ (8 : Int) = 5 by omega), if_neg (show ¬ (8 : Int) = 6 by omega), if_neg (show ¬ (8 : Int) = 7 by omega), if_pos]
      split <;> exact ⟨_, rfl⟩
    · simp only [if_neg (show ¬ (9 : Int) = 3 by omega), if_neg (show ¬ (9 : Int) = 4 by omega), if_neg (show ¬ (9 : Int) = 5 by omega), if_neg (show ¬ (9 : Int) = 6 by omega), if_neg (show ¬ (9 : Int) = 7 by omega), if_neg (show ¬ (9 : Int) = 8 by omega), if_pos]
      split <;> exact ⟨_, rfl⟩
    · simp only [if_neg (show ¬ (10 : Int) = 3 by omega), if_neg (show ¬ (10 : Int) = 4 by omega), if_neg (show ¬ (10 : Int) = 5 by omega), if_neg (show ¬ (10 : Int) = 6 by omega), if_neg (show ¬ (10 : Int) = 7 by omega), if_neg (show ¬ (10 : Int) = 8 by omega), if_neg (show ¬ (10 : Int) = 9 by omega), if_pos]
      split <;> exact ⟨_, rfl⟩

theorem toP_get (t : List S87) (i : Nat) (x : Int × Int) (h : (toP t)[i]? = some x) : i < t.length ∧ (rd_T87 t (i : Int)).f0 = x.1 ∧ (rd_T87 t (i : Int)).f1 = x.2 := by
  unfold toP at h
  rw [List.getElem?_map] at h
  cases hi : t[i]? with
  | none => rw [hi] at h; exact absurd h (by simp)
  | some y =>
    rw [hi] at h
    injection h with h
    obtain ⟨hl, e⟩ := List.getElem?_eq_some_iff.1 hi
    rw [rdN_nat, List.getD_eq_getElem?_getD, hi]
    subst h
    exact ⟨hl, rfl, rfl⟩
/-- The node at the end of a tree's nodes. -/
theorem rd_flat (t : List S87) (pre post : List (Int × Int)) (T : Tree.Tr) (h : toP t = pre ++ T.flat ++ post) (i : Nat) (hi : i + 1 = pre.length + T.flat.length) : i < t.length ∧ (rd_T87 t (i : Int)).f0 = T.op ∧ (rd_T87 t (i : Int)).f1 = T.n := by
  refine toP_get t i (T.op, T.n) ?_
  rw [Tree.flat_eq, List.length_append, List.length_singleton] at hi
  rw [h, Tree.flat_eq, List.append_assoc, List.append_assoc, List.getElem?_append_right (by omega), List.getElem?_append_right (by omega)]
  have e : i - pre.length - (Tree.flats T.kids).length = 0 := by omega
  rw [e]
  rfl
theorem arity_good (k : Nat) (hk : 0 < k) {T : Tree.Tr} (hg : Tree.Good T) : spec_l1Arity.f k T.op = some (T.kids.length : Int) := by
  rw [specArity_f k hk, if_pos (Tree.numOK_op hg.num), hg.arity]
theorem from_f (t : List S87) (hn : t.length ≤ 1048576) : ∀ (n : Nat) (T : Tree.Tr), T.flat.length ≤ n → Tree.Good T → ∀ (pre post : List (Int × Int)), toP t = pre ++ T.flat ++ post → ∀ (i : Nat), i + 1 = pre.length + T.flat.length → ∀ (k : Nat), 2 * T.flat.length + 1 ≤ k →
    spec_l2From.f k t (i : Int) = some (pre.length : Int) := by
  intro n
  induction n with
  | zero => intro T h; have := Tree.flat_pos T; omega
  | succ n ih =>
    intro T hsz hg pre post h i hi k hk
    obtain ⟨hil, ho, -⟩ := rd_flat t pre post T h i hi
    have hf : T.flat.length = (Tree.flats T.kids).length + 1 := by rw [Tree.flat_eq]; simp
    obtain ⟨k, rfl⟩ : ∃ m, k = m + 1 := ⟨k - 1, by omega⟩
    unfold spec_l2From.f
    rw [if_pos (by omega), if_pos (by omega), ho, arity_good k (by omega) hg, Option.bind_some]
    have loop : ∀ (j : Nat), j ≤ T.kids.length → ∀ (post' : List (Int × Int)), toP t = pre ++ Tree.flats (T.kids.take j) ++ post' → ∀ (k : Nat), 2 * (Tree.flats (T.kids.take j)).length + 2 ≤ k →
        spec_l2From.l0 k t ((pre.length + (Tree.flats (T.kids.take j)).length : Nat) : Int) (j : Int) = some (pre.length : Int) := by
      intro j
      induction j with
      | zero =>
        intro _ post' _ k hk
        obtain ⟨k, rfl⟩ : ∃ m, k = m + 1 := ⟨k - 1, by omega⟩
        unfold spec_l2From.l0
        rw [if_neg (by omega)]
        simp [Tree.flats]
      | succ j ihj =>
        intro hj post' hp k hk
        obtain ⟨k, rfl⟩ : ∃ m, k = m + 1 := ⟨k - 1, by omega⟩
        have hj' : j < T.kids.length := by omega
        have hK : T.kids[j]? = some T.kids[j] := List.getElem?_eq_getElem hj'
        have hKg : Tree.Good T.kids[j] := hg.kids _ (List.getElem_mem hj')
        have hKs := Tree.flats_len_mem (List.getElem_mem hj')
        generalize T.kids[j] = K at hK hKg hKs
        have hK1 := Tree.flat_pos K
        have hsucc := Tree.flats_take_succ T.kids j hK
        have hle := Tree.flats_take_le T.kids (j + 1)
        have hsplit : Tree.flats (T.kids.take (j + 1)) = Tree.flats (T.kids.take j) ++ K.flat := by
          obtain ⟨hi', e⟩ := List.getElem?_eq_some_iff.1 hK
          rw [List.take_succ_eq_append_getElem hi', Tree.flats_append, e]
          simp [Tree.flats]
        rw [hsplit] at hp
        have hp1 : toP t = (pre ++ Tree.flats (T.kids.take j)) ++ K.flat ++ post' := by rw [hp]; simp
        have hp2 : toP t = pre ++ Tree.flats (T.kids.take j) ++ (K.flat ++ post') := by rw [hp]; simp
        have hlen : pre.length + T.flat.length ≤ t.length := by
          have := congrArg List.length h
          rw [toP_len, List.length_append, List.length_append] at this
          omega
        unfold spec_l2From.l0
        have e1 : wrap64 (((pre.length + (Tree.flats (T.kids.take (j + 1))).length : Nat) : Int) - 1) = ((pre.length + (Tree.flats (T.kids.take j)).length + K.flat.length - 1 : Nat) : Int) := by unfold wrap64; omega
        have e2 : wrap64 (((j + 1 : Nat) : Int) - 1) = (j : Int) := by unfold wrap64; have := Tree.flats_ge T.kids; omega
        rw [if_pos (by omega), e1, e2, ih K (by omega) hKg (pre ++ Tree.flats (T.kids.take j)) post' hp1 _ (by rw [List.length_append]; omega) k (by omega), Option.bind_some, List.length_append]
        exact ihj (by omega) (K.flat ++ post') hp2 k (by omega)
    have hall := loop T.kids.length (Nat.le_refl _) ([(T.op, T.n)] ++ post) (by rw [List.take_length, h, Tree.flat_eq]; simp) k (by rw [List.take_length]; omega)
    rw [List.take_length] at hall
    rw [show (i : Int) = ((pre.length + (Tree.flats T.kids).length : Nat) : Int) by omega]
    exact hall

/-- The roots of trees that stand one behind the other from a place on. -/
def roots : Nat → List Tree.Tr → List Int
  | _, [] => []
  | b, k :: ks => (((b + k.flat.length : Nat) : Int) - 1) :: roots (b + k.flat.length) ks
theorem roots_len (ks : List Tree.Tr) : ∀ b, (roots b ks).length = ks.length := by
  induction ks with
  | nil => intro b; rfl
  | cons x t ih => intro b; simp [roots, ih]
theorem roots_get (ks : List Tree.Tr) : ∀ (b j : Nat), j < ks.length → (roots b ks).getD j 0 = ((b + (Tree.flats (ks.take (j + 1))).length : Nat) : Int) - 1 := by
  induction ks with
  | nil => intro b j h; exact absurd h (Nat.not_lt_zero _)
  | cons x t ih =>
    intro b j h
    cases j with
    | zero => simp [roots, Tree.flats]
    | succ j =>
      have := ih (b + x.flat.length) j (by simpa using h)
      simp only [roots, List.getD_cons_succ, List.take_succ_cons, Tree.flats, List.length_append]
      rw [this]
      congr 2
      omega
theorem roots_drop (ks : List Tree.Tr) (b j : Nat) {K : Tree.Tr} (h : ks[j]? = some K) : roots (b + (Tree.flats (ks.take j)).length) (ks.drop j) = (((b + (Tree.flats (ks.take (j + 1))).length : Nat) : Int) - 1) :: roots (b + (Tree.flats (ks.take (j + 1))).length) (ks.drop (j + 1)) := by
  obtain ⟨hi, e⟩ := List.getElem?_eq_some_iff.1 h
  rw [List.drop_eq_getElem_cons hi, e]
  have := Tree.flats_take_succ ks j h
  rw [this, ← Nat.add_assoc]
  rfl
/-- A kid's nodes among all. -/
theorem kid_at (l pre post : List (Int × Int)) (T : Tree.Tr) (h : l = pre ++ T.flat ++ post) (j : Nat) (K : Tree.Tr) (hK : T.kids[j]? = some K) : l = (pre ++ Tree.flats (T.kids.take j)) ++ K.flat ++ (Tree.flats (T.kids.drop (j + 1)) ++ [(T.op, T.n)] ++ post) := by
  obtain ⟨hi, e⟩ := List.getElem?_eq_some_iff.1 hK
  have h1 : T.kids = T.kids.take j ++ (K :: T.kids.drop (j + 1)) := by rw [← e, ← List.drop_eq_getElem_cons hi, List.take_append_drop]
  rw [h, Tree.flat_eq]
  conv => lhs; rw [h1, Tree.flats_append]
  simp [Tree.flats]
theorem parts_f (t : List S87) (hn : t.length ≤ 1048576) (T : Tree.Tr) (hg : Tree.Good T) (pre post : List (Int × Int)) (h : toP t = pre ++ T.flat ++ post) (i : Nat) (hi : i + 1 = pre.length + T.flat.length) (k : Nat) (hk : 2 * T.flat.length + 3 ≤ k) :
    spec_l2Parts.f k t (i : Int) = some (roots pre.length T.kids) := by
  obtain ⟨hil, ho, -⟩ := rd_flat t pre post T h i hi
  have hf : T.flat.length = (Tree.flats T.kids).length + 1 := by rw [Tree.flat_eq]; simp
  have hlen : pre.length + T.flat.length ≤ t.length := by
    have := congrArg List.length h
    rw [toP_len, List.length_append, List.length_append] at this
    omega
  have hge := Tree.flats_ge T.kids
  unfold spec_l2Parts.f
  rw [if_pos (by omega), if_pos (by omega), ho, arity_good k (by omega) hg, Option.bind_some]
  have loop : ∀ (j : Nat), j ≤ T.kids.length → ∀ (k : Nat), 2 * (Tree.flats (T.kids.take j)).length + 2 ≤ k →
      spec_l2Parts.l0 k t (roots (pre.length + (Tree.flats (T.kids.take j)).length) (T.kids.drop j)) (((pre.length + (Tree.flats (T.kids.take j)).length : Nat) : Int) - 1) (j : Int) = some (roots pre.length T.kids) := by
    intro j
    induction j with
    | zero =>
      intro _ k hk
      obtain ⟨k, rfl⟩ : ∃ m, k = m + 1 := ⟨k - 1, by omega⟩
      unfold spec_l2Parts.l0
      rw [if_neg (by omega)]
      simp [Tree.flats]
    | succ j ihj =>
      intro hj k hk
      obtain ⟨k, rfl⟩ : ∃ m, k = m + 1 := ⟨k - 1, by omega⟩
      have hj' : j < T.kids.length := by omega
      have hK : T.kids[j]? = some T.kids[j] := List.getElem?_eq_getElem hj'
      have hKg : Tree.Good T.kids[j] := hg.kids _ (List.getElem_mem hj')
      generalize T.kids[j] = K at hK hKg
      have hK1 := Tree.flat_pos K
      have hsucc := Tree.flats_take_succ T.kids j hK
      have hle := Tree.flats_take_le T.kids (j + 1)
      have hat := kid_at _ _ _ T h j K hK
      have e1 : (((pre.length + (Tree.flats (T.kids.take (j + 1))).length : Nat) : Int) - 1) = ((pre.length + (Tree.flats (T.kids.take j)).length + K.flat.length - 1 : Nat) : Int) := by omega
      have hfrom := from_f t hn K.flat.length K (Nat.le_refl _) hKg _ _ hat (pre.length + (Tree.flats (T.kids.take j)).length + K.flat.length - 1) (by rw [List.length_append]; omega) k (by omega)
      rw [List.length_append] at hfrom
      have e2 : wrap64 (((pre.length + (Tree.flats (T.kids.take j)).length : Nat) : Int) - 1) = ((pre.length + (Tree.flats (T.kids.take j)).length : Nat) : Int) - 1 := by unfold wrap64; omega
      have e3 : wrap64 (((j + 1 : Nat) : Int) - 1) = (j : Int) := by unfold wrap64; omega
      have hrl := roots_len (T.kids.drop (j + 1)) (pre.length + (Tree.flats (T.kids.take (j + 1))).length)
      rw [List.length_drop] at hrl
      have hd := roots_drop T.kids pre.length j hK
      unfold spec_l2Parts.l0
      rw [if_pos (by omega), Option.bind_some, if_pos (by rw [hrl]; simp; omega), e1, hfrom, Option.bind_some, e2, e3]
      have := ihj (by omega) k (by omega)
      rw [hd, e1] at this
      exact this
  have hall := loop T.kids.length (Nat.le_refl _) k (by rw [List.take_length]; omega)
  rw [List.take_length, List.drop_length] at hall
  have e : wrap64 ((i : Int) - 1) = ((pre.length + (Tree.flats T.kids).length : Nat) : Int) - 1 := by unfold wrap64; omega
  rw [e]
  exact hall

theorem evalLoop (t : List S87) (env : List Int) (T : Tree.Tr) (b : Nat) (o n : Int) (C : Nat) (hl : T.kids.length ≤ 3)
    (hrec : ∀ j K, T.kids[j]? = some K → ∀ k, C ≤ k → spec_l2Eval.f k t (((b + (Tree.flats (T.kids.take (j + 1))).length : Nat) : Int) - 1) env = some (K.ev impl_doOp.f env)) (d : Nat) : ∀ (k j : Nat), j + d = T.kids.length → C + d < k → (∀ m, m < j → ((T.kids.map fun K => K.ev impl_doOp.f env).getD m (0, false)).2 = false) →
    spec_l2Eval.l0 k t env (((T.kids.map fun K => K.ev impl_doOp.f env).take j).map (·.1)) (roots b T.kids) (T.kids.length : Int) (j : Int) o n = if (T.kids.map fun K => K.ev impl_doOp.f env).any (·.2) = true then some (0, true) else impl_doOp.f o ((T.kids.map fun K => K.ev impl_doOp.f env).map (·.1)) := by
  induction d with
  | zero =>
    intro k j hj hk hno
    obtain ⟨k, rfl⟩ : ∃ m, k = m + 1 := ⟨k - 1, by omega⟩
    have hany : (T.kids.map fun K => K.ev impl_doOp.f env).any (·.2) = false := by
      rw [List.any_eq_false]
      intro x hx
      obtain ⟨m, hm, rfl⟩ := List.getElem_of_mem hx
      have := hno m (by rw [List.length_map] at hm; omega)
      rw [List.getD_eq_getElem?_getD, List.getElem?_eq_getElem hm] at this
      simpa using this
    unfold spec_l2Eval.l0
    rw [if_neg (by omega), hany, if_neg (by simp), List.take_of_length_le (by rw [List.length_map]; omega), do_same]
    cases impl_doOp.f o _ with
    | none => rfl
    | some p => rfl
  | succ d ih =>
    intro k j hj hk hno
    obtain ⟨k, rfl⟩ : ∃ m, k = m + 1 := ⟨k - 1, by omega⟩
    have hj' : j < T.kids.length := by omega
    have hK : T.kids[j]? = some T.kids[j] := List.getElem?_eq_getElem hj'
    have hr := hrec j _ hK k (by omega)
    have hget : (T.kids.map fun K => K.ev impl_doOp.f env)[j]? = some (T.kids[j].ev impl_doOp.f env) := by rw [List.getElem?_map, hK]; rfl
    have hjm : j < (T.kids.map fun K => K.ev impl_doOp.f env).length := by rw [List.length_map]; exact hj'
    have hmem : T.kids[j].ev impl_doOp.f env ∈ T.kids.map fun K => K.ev impl_doOp.f env := List.mem_map.2 ⟨_, List.getElem_mem hj', rfl⟩
    have htake : (T.kids.map fun K => K.ev impl_doOp.f env).take (j + 1) = (T.kids.map fun K => K.ev impl_doOp.f env).take j ++ [T.kids[j].ev impl_doOp.f env] := by
      rw [List.take_succ_eq_append_getElem hjm]
      congr 2
      rw [List.getElem_map]
    generalize T.kids[j].ev impl_doOp.f env = p at hr hget hmem htake
    unfold spec_l2Eval.l0
    rw [if_pos (by omega), if_pos (by omega), if_pos (by rw [roots_len]; omega), rd_nat, roots_get T.kids b j hj', hr, Option.bind_some]
    by_cases hp : p.2 = true
    · rw [if_pos hp, if_pos (List.any_eq_true.2 ⟨p, hmem, hp⟩)]
    · rw [if_neg hp, if_pos (by rw [List.length_map, List.length_take, List.length_map]; omega), wn64s j (by omega)]
      have := ih k (j + 1) (by omega) (by omega) (fun m hm => by
        by_cases e : m = j
        · rw [e, List.getD_eq_getElem?_getD, hget]; simpa using hp
        · exact hno m (by omega))
      rw [htake, List.map_append] at this
      exact this
theorem ev_f (t : List S87) (hn : t.length ≤ 1048576) (env : List Int) (h4 : env.length = 4) : ∀ (n : Nat) (T : Tree.Tr), T.flat.length ≤ n → Tree.Good T → ∀ (pre post : List (Int × Int)), toP t = pre ++ T.flat ++ post → ∀ (i : Nat), i + 1 = pre.length + T.flat.length → ∀ (k : Nat), 5 * T.flat.length + 9 ≤ k →
    spec_l2Eval.f k t (i : Int) env = some (T.ev impl_doOp.f env) := by
  intro n
  induction n with
  | zero => intro T h; have := Tree.flat_pos T; omega
  | succ n ih =>
    intro T hsz hg pre post h i hi k hk
    obtain ⟨hil, ho, hv⟩ := rd_flat t pre post T h i hi
    obtain ⟨k, rfl⟩ : ∃ m, k = m + 1 := ⟨k - 1, by omega⟩
    have hf : T.flat.length = (Tree.flats T.kids).length + 1 := by rw [Tree.flat_eq]; simp
    have har := hg.arity
    have hop := Tree.numOK_op hg.num
    have hrange := Tree.arity_range T.op
    have hl3 : T.kids.length ≤ 3 := by omega
    have hrec : ∀ j K, T.kids[j]? = some K → ∀ k', 5 * T.flat.length + 4 ≤ k' → spec_l2Eval.f k' t (((pre.length + (Tree.flats (T.kids.take (j + 1))).length : Nat) : Int) - 1) env = some (K.ev impl_doOp.f env) := by
      intro j K hK k' hk'
      obtain ⟨hj, e⟩ := List.getElem?_eq_some_iff.1 hK
      have hKs := Tree.flats_len_mem (List.getElem_mem hj)
      have hKg := hg.kids _ (List.getElem_mem hj)
      rw [e] at hKs hKg
      have hat := kid_at _ _ _ T h j K hK
      have hsucc := Tree.flats_take_succ T.kids j hK
      have hK1 := Tree.flat_pos K
      have := ih K (by omega) hKg _ _ hat (pre.length + (Tree.flats (T.kids.take (j + 1))).length - 1) (by rw [List.length_append]; omega) k' (by omega)
      rw [← this]
      congr 1
      omega
    unfold spec_l2Eval.f
    rw [if_pos (by omega), if_pos (by omega), ho, hv, Tree.ev_eq]
    unfold Tree.comb
    by_cases h1 : T.op = 1
    · rw [if_pos h1, if_pos h1]
    · rw [if_neg h1, if_neg h1]
      by_cases h2 : T.op = 2
      · have hnum := hg.num
        rw [h2] at hnum
        have hnum : 0 ≤ T.n ∧ T.n < 4 := by
          unfold Tree.numOK at hnum
          rw [if_neg (by omega), if_pos rfl] at hnum
          exact of_decide_eq_true hnum
        rw [if_pos h2, if_pos h2, if_pos hnum.1, if_pos (by omega)]
        rfl
      · rw [if_neg h2, if_neg h2, parts_f t hn T hg pre post h i hi k (by omega), Option.bind_some, roots_len]
        by_cases h11 : T.op = 11
        · rw [h11] at har
          have hl : T.kids.length = 3 := by have : Tree.arity 11 = 3 := rfl; omega
          have hg0 : ∀ j (hj : j < 3), ∃ K, T.kids[j]? = some K := fun j hj => ⟨_, List.getElem?_eq_getElem (by omega)⟩
          obtain ⟨K0, q0⟩ := hg0 0 (by omega)
          obtain ⟨K1, q1⟩ := hg0 1 (by omega)
          obtain ⟨K2, q2⟩ := hg0 2 (by omega)
          have r0 := hrec 0 K0 q0 k (by omega)
          have r1 := hrec 1 K1 q1 k (by omega)
          have r2 := hrec 2 K2 q2 k (by omega)
          have v0 : (T.kids.map fun k => k.ev impl_doOp.f env).getD 0 (0, false) = K0.ev impl_doOp.f env := by rw [List.getD_eq_getElem?_getD, List.getElem?_map, q0]; rfl
          have v1 : (T.kids.map fun k => k.ev impl_doOp.f env).getD 1 (0, false) = K1.ev impl_doOp.f env := by rw [List.getD_eq_getElem?_getD, List.getElem?_map, q1]; rfl
          have v2 : (T.kids.map fun k => k.ev impl_doOp.f env).getD 2 (0, false) = K2.ev impl_doOp.f env := by rw [List.getD_eq_getElem?_getD, List.getElem?_map, q2]; rfl
          have u0 := roots_get T.kids pre.length 0 (by omega)
          have u1 := roots_get T.kids pre.length 1 (by omega)
          have u2 := roots_get T.kids pre.length 2 (by omega)
          have w0 : rd (roots pre.length T.kids) 0 = _ := u0
          have w1 : rd (roots pre.length T.kids) 1 = _ := u1
          have w2 : rd (roots pre.length T.kids) 2 = _ := u2
          rw [if_pos h11, if_pos h11, v0, v1, v2, w0, w1, w2, r0, r1, r2, if_pos (by omega), if_pos (by omega), if_pos (by omega)]
          simp only [Option.bind_some]
          by_cases b0 : (K0.ev impl_doOp.f env).2 = true
          · rw [if_pos b0, if_pos b0]
          · rw [if_neg b0, if_neg b0]
            by_cases z0 : (K0.ev impl_doOp.f env).1 = 0
            · rw [if_pos z0, if_pos z0]
            · rw [if_neg z0, if_neg z0]
        · rw [if_neg h11, if_neg h11]
          have hloop := evalLoop t env T pre.length T.op T.n (5 * T.flat.length + 4) hl3 hrec T.kids.length k 0 (by omega) (by omega) (fun m hm => absurd hm (Nat.not_lt_zero _))
          have e0 : (((T.kids.map fun K => K.ev impl_doOp.f env).take 0).map (·.1)) = ([] : List Int) := by simp
          rw [e0] at hloop
          refine hloop.trans ?_
          by_cases ha : (T.kids.map fun K => K.ev impl_doOp.f env).any (·.2) = true
          · rw [if_pos ha, if_pos ha]
          · rw [if_neg ha, if_neg ha]
            obtain ⟨p, hp⟩ := doOp_some T.op ((T.kids.map fun K => K.ev impl_doOp.f env).map (·.1)) (T.kids.length : Int) (by simp) (by
              by_cases e3 : T.op = 3
              · rw [e3] at har; exact .inl ⟨e3, by rw [har]; rfl⟩
              · refine .inr (.inr ⟨by omega, by omega, ?_⟩)
                rw [har]
                unfold Tree.arity
                rw [if_neg (by omega), if_neg e3, if_neg (by omega)])
            rw [hp]
            rfl

theorem evalSide (t : List S87) (T : Tree.Tr) (hT : patTree t = some T) (env : List Int) (h4 : env.length = 4) (k : Nat) (hk : 5 * t.length + 9 ≤ k) : spec_l2Eval.f k t (wrap64 ((t.length : Int) - 1)) env = some (T.ev impl_doOp.f env) := by
  have hTt := patTree_treeOf hT
  obtain ⟨hg, hfl, hl⟩ := Tree.treeOf_flat hTt
  have h1 := (Tree.treeOf_ok (by rw [hTt]; rfl)).1
  rw [toP_len] at h1 hl
  have hlen : T.flat.length = t.length := by rw [hfl, toP_len]
  have e : wrap64 ((t.length : Int) - 1) = ((t.length - 1 : Nat) : Int) := by unfold wrap64; omega
  rw [e]
  exact ev_f t (by omega) env h4 T.flat.length T (Nat.le_refl _) hg [] [] (by rw [hfl]; simp) (t.length - 1) (by rw [hlen]; simp; omega) k (by omega)
theorem holds_same (l m : List S87) (hl : l.length ≤ 1048576) (hm : m.length ≤ 1048576) (env : List Int) (k : Nat) (hk : 5 * l.length + 10 ≤ k) (hk' : 5 * m.length + 10 ≤ k) : spec_HoldsAt.f k l m env = impl_HoldsAt.f l m env := by
  have hgr : spec_GoodRule.f k l m = some ((patTree l).isSome && (patTree m).isSome) := by
    unfold spec_GoodRule.f
    rw [specPat_f l hl k (by omega), specPat_f m hm k (by omega)]
    unfold impl_GoodPattern.f
    cases (patTree l).isSome <;> rfl
  have hbad : ∀ c, spec_HoldsAt.j0 k env true l m = some c → c = (false, false) := by
    obtain ⟨k, rfl⟩ : ∃ j, k = j + 1 := ⟨k - 1, by omega⟩
    intro c h
    simpa [spec_HoldsAt.j0, eq_comm] using h
  have hbad : spec_HoldsAt.j0 k env true l m = some (false, false) := by
    obtain ⟨k, rfl⟩ : ∃ j, k = j + 1 := ⟨k - 1, by omega⟩
    simp [spec_HoldsAt.j0]
  unfold spec_HoldsAt.f impl_HoldsAt.f
  rw [hgr, Option.bind_some]
  cases hT : patTree l with
  | none => exact hbad
  | some T =>
    cases hU : patTree m with
    | none => exact hbad
    | some U =>
      show (if true = true then _ else _) = _
      rw [if_pos rfl]
      by_cases h4 : env.length = 4
      · have e4 : ((env.length : Int) != 4) = false := by simp; omega
        rw [e4]
        obtain ⟨k, rfl⟩ : ∃ j, k = j + 1 := ⟨k - 1, by omega⟩
        simp only [spec_HoldsAt.j0]
        rw [if_neg (by simp), evalSide l T hT env h4 k (by omega), Option.bind_some, evalSide m U hU env h4 k (by omega), Option.bind_some, if_pos h4]
        cases h : ((T.ev impl_doOp.f env).2 == (U.ev impl_doOp.f env).2) with
        | true => rw [if_pos rfl, Bool.true_and]
        | false => rw [if_neg (by simp), Bool.false_and]
      · have e4 : ((env.length : Int) != 4) = true := by rw [bne_iff_ne]; omega
        rw [e4, hbad]
        simp only
        rw [if_neg h4]
theorem holds_some (l m : List S87) (env : List Int) : ∃ p, impl_HoldsAt.f l m env = some p := by
  unfold impl_HoldsAt.f
  split
  · split <;> exact ⟨_, rfl⟩
  · exact ⟨_, rfl⟩
theorem FnExactHoldsAt : RdFnExactHoldsAt.Pure := by
  rintro ⟨l, m⟩ env _ hl hm hel _
  simp only at hl hm ⊢
  refine ⟨5 * (l.length + m.length) + env.length + 20, ?_⟩
  unfold laws_FnExactHoldsAt.f
  by_cases hen : (env.length : Int) > 1048576
  · rw [if_pos hen]
  · obtain ⟨t, ht, hh⟩ := szR_f l m hl hm
    rw [if_neg hen, ht, Option.bind_some]
    by_cases h : t < 0
    · rw [if_pos h]
    · obtain ⟨hl2, hm2⟩ : l.length ≤ 1048576 ∧ m.length ≤ 1048576 := hh.resolve_left h
      have e1 : (l.map cvN).length = l.length := List.length_map _
      have e2 : (m.map cvN).length = m.length := List.length_map _
      obtain ⟨p, hp⟩ := holds_some (l.map cvN) (m.map cvN) env
      have hs := holds_same (l.map cvN) (m.map cvN) (by omega) (by omega) env (5 * (l.length + m.length) + env.length + 20) (by omega) (by omega)
      rw [hp] at hs
      have t0 := toR_f l m hl2 hm2 (5 * (l.length + m.length) + env.length + 20) (by omega) (by omega)
      have t1 := toR_f l m hl2 hm2 (5 * (l.length + m.length) + env.length + 19) (by omega) (by omega)
      have q1 := eqR_f (l.map cvN) (m.map cvN) (by omega) (by omega) (5 * (l.length + m.length) + env.length + 19) (by omega) (by omega)
      have u0 := laws_toInt64S_f env (by omega) (5 * (l.length + m.length) + env.length + 20) (by omega)
      have u1 := laws_toInt64S_f env (by omega) (5 * (l.length + m.length) + env.length + 19) (by omega)
      have v1 := laws_eqInt64S_f env (by omega) (5 * (l.length + m.length) + env.length + 19) (by omega)
      rw [if_neg h]
      simp only [t0, u0, hs, hp, Option.bind_some, if_true, bne_self_eq_false, Bool.false_eq_true, if_false]
      simp only [laws_FnExactHoldsAt.j0, t1, q1, u1, v1, Option.bind_some, if_true, Bool.false_eq_true, if_false]

end Go.Proofs.Ytlneknaiimmfmaa.Pure
