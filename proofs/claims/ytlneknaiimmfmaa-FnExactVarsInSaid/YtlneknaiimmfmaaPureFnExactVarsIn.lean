/- The program's VarsIn and the reference's answer alike at every list of nodes; no condition. -/
import Derived.Test.YtlneknaiimmfmaaPFnExactVarsInx5
import Derived.Test.YtlneknaiimmfmaaRdFnExactVarsIn
import Derived.Test.YtlneknaiimmfmaaTreeVars
set_option linter.unusedVariables false
set_option linter.unusedSimpArgs false
namespace Go.Proofs.Ytlneknaiimmfmaa.Pure
open Go.RowKit Go.Proofs.Ytlneknaiimmfmaa.PFnExactVarsIn Go.Proofs.YtlneknaiimmfmaaW.PrintWords Go.Proofs.YtlneknaiimmfmaaW.PrintLast Go.Proofs.YtlneknaiimmfmaaW.PrintMore

theorem wn64s (i : Nat) (h : i ≤ 140737488355328) : wrap64 ((i : Int) + 1) = ((i + 1 : Nat) : Int) := by unfold wrap64; omega
def cvN (x : S90) : S87 := ⟨x.f0, x.f1⟩
theorem rdN_nat (l : List S87) (i : Nat) : rd_T87 l (i : Int) = l.getD i z87 := by simp [rd_T87]
theorem szN_f (l : List S90) (m : Int) (hm0 : 0 ≤ m) (hm : m ≤ 1048576) (hl : l.length ≤ 9223372036854775807) : laws_szNodeS.f l m = some (if m - (l.length : Int) < 0 then -1 else m - (l.length : Int)) := by
  unfold laws_szNodeS.f
  have e : wrap64 (m - (l.length : Int)) = m - (l.length : Int) := by unfold wrap64; omega
  rw [e]
  split <;> rfl
theorem toN_run (x0 : List S90) (hn : x0.length ≤ 140737488351232) (d : Nat) : ∀ (k i : Nat) (x3 : List S87), i + d = x0.length → x3.length = x0.length → (∀ j, j < i → x3[j]? = (x0.map cvN)[j]?) → d < k →
    laws_toNodeS.l0 k x0 x3 (i : Int) = some (x0.map cvN) := by
  induction d with
  | zero =>
    intro k i x3 hi hl hj hk
    obtain ⟨k, rfl⟩ : ∃ m, k = m + 1 := ⟨k - 1, by omega⟩
    simp only [laws_toNodeS.l0]
    rw [if_neg (by omega)]
    congr 1
    apply List.ext_getElem?
    intro j
    by_cases h : j < i
    · exact hj j h
    · rw [List.getElem?_eq_none (by omega), List.getElem?_eq_none (by rw [List.length_map]; omega)]
  | succ d ih =>
    intro k i x3 hi hl hj hk
    obtain ⟨k, rfl⟩ : ∃ m, k = m + 1 := ⟨k - 1, by omega⟩
    simp only [laws_toNodeS.l0, laws_toNode.f, Option.bind_some]
    rw [if_pos (by omega), if_pos (by omega), if_pos (by omega), wn64s i (by omega)]
    refine ih k (i + 1) _ (by omega) (by simpa using hl) ?_ (by omega)
    intro j hji
    rw [Int.toNat_natCast, List.getElem?_set]
    by_cases h : i = j
    · subst h
      rw [if_pos rfl, if_pos (by omega), List.getElem?_map, List.getElem?_eq_getElem (by omega)]
      simp [rd_T90, cvN, List.getD_eq_getElem?_getD, List.getElem?_eq_getElem (show i < x0.length by omega)]
    · rw [if_neg h]
      exact hj j (by omega)
theorem toN_f (l : List S90) (hn : l.length ≤ 1048576) (k : Nat) (hk : l.length < k) : laws_toNodeS.f k l = some (l.map cvN) := by
  unfold laws_toNodeS.f
  rw [if_pos (by omega), if_pos (by omega)]
  exact toN_run l (by omega) l.length k 0 _ (by omega) (by simp) (fun j hj => by omega) hk
theorem eqN_run (x0 : List S87) (hn : x0.length ≤ 140737488351232) (d : Nat) : ∀ (k i : Nat), i + d = x0.length → d < k → laws_eqNodeS.l0 k x0 x0 (i : Int) = some true := by
  induction d with
  | zero =>
    intro k i hi hk
    obtain ⟨k, rfl⟩ : ∃ m, k = m + 1 := ⟨k - 1, by omega⟩
    simp only [laws_eqNodeS.l0]
    rw [if_neg (by omega)]
  | succ d ih =>
    intro k i hi hk
    obtain ⟨k, rfl⟩ : ∃ m, k = m + 1 := ⟨k - 1, by omega⟩
    simp only [laws_eqNodeS.l0, laws_eqNode.f]
    rw [if_pos (by omega), if_pos (by omega), if_pos (by omega), if_pos trivial, if_pos trivial, Option.bind_some, if_pos rfl, wn64s i (by omega)]
    exact ih k (i + 1) (by omega) (by omega)
theorem eqN_f (l : List S87) (hn : l.length ≤ 140737488351232) (k : Nat) (hk : l.length < k) : laws_eqNodeS.f k l l = some true := by
  unfold laws_eqNodeS.f
  rw [if_pos rfl]
  exact eqN_run l hn l.length k 0 (by omega) hk

theorem specArity_f (k : Nat) (hk : 0 < k) (op : Int) : spec_l1Arity.f k op = some (if 1 ≤ op ∧ op ≤ 11 then Tree.arity op else -1) := by
  obtain ⟨k, rfl⟩ : ∃ m, k = m + 1 := ⟨k - 1, by omega⟩
  unfold spec_l1Arity.f Tree.arity
  by_cases h1 : op = 1
  · subst h1; rfl
  · rw [if_neg h1]
    by_cases h2 : op = 2
    · subst h2; rfl
    · rw [if_neg (by omega : ¬ (op = 1 ∨ op = 2))]
      simp only [spec_l1Arity.j0]
      rw [if_neg (by simpa using h2)]
      by_cases h3 : op = 3
      · subst h3; rfl
      · rw [if_neg h3, if_neg h3]
        by_cases h4 : op = 11
        · subst h4; rfl
        · rw [if_neg h4, if_neg h4]
          unfold spec_l1In.f
          by_cases h5 : op ≥ 4
          · by_cases h6 : op ≤ 10
            · rw [if_pos h5, Option.bind_some, decide_eq_true h6, if_pos rfl, if_pos (by omega)]
            · rw [if_pos h5, Option.bind_some, decide_eq_false h6, if_neg (by simp), if_neg (by omega)]
          · rw [if_neg h5, Option.bind_some, if_neg (by simp), if_neg (by omega)]
/-- How many trees a list of nodes leaves. -/
def goodB (r : Option (List Tree.Tr × List Tree.Tr)) : Bool := match r with | some s => s.1.length == 1 | none => false
theorem specGood_run (t : List S87) (hn : t.length ≤ 1048576) (d : Nat) : ∀ (k i : Nat) (s : List Tree.Tr × List Tree.Tr), i + d = t.length → Tree.build (toP (t.take i)) ([], []) = some s → d + 1 < k →
    spec_GoodTerm.l0 k (s.1.length : Int) t (t.length : Int) (i : Int) = some (goodB (Tree.build (toP t) ([], []))) := by
  induction d with
  | zero =>
    intro k i s hi hs hk
    obtain ⟨k, rfl⟩ : ∃ m, k = m + 1 := ⟨k - 1, by omega⟩
    simp only [spec_GoodTerm.l0]
    have e : t.take i = t := List.take_of_length_le (by omega)
    rw [e] at hs
    rw [if_neg (by omega), hs]
    show some ((s.1.length : Int) == 1) = some (s.1.length == 1)
    congr 1
    rw [Bool.eq_iff_iff]; simp; omega
  | succ d ih =>
    intro k i s hi hs hk
    obtain ⟨k, rfl⟩ : ∃ m, k = m + 1 := ⟨k - 1, by omega⟩
    simp only [spec_GoodTerm.l0]
    rw [if_pos (by omega), if_pos (by omega), if_pos (by omega), specArity_f k (by omega), Option.bind_some, wn64s i (by omega), rdN_nat]
    have hlen := (Tree.build_len _ _ _ hs).1
    rw [toP_len, List.length_take] at hlen
    have hl2 : s.1.length ≤ t.length := by simp at hlen; omega
    have hsucc := build_succ t i (by omega) hs
    have hfail := build_fail t i (by omega) hs
    generalize t.getD i z87 = x at hsucc hfail ⊢
    obtain ⟨op, n⟩ := x
    simp only at hsucc hfail ⊢
    have hr := Tree.arity_range op
    have hbad : (Tree.numOK op n = true ∧ Tree.arity op ≤ (s.1.length : Int)) → False → True := fun _ _ => trivial
    by_cases hst : Tree.numOK op n = true ∧ Tree.arity op ≤ (s.1.length : Int)
    · have hstep : Tree.step s (op, n) = some (s.1.take (s.1.length - (Tree.arity op).toNat) ++ [.mk op n (s.1.drop (s.1.length - (Tree.arity op).toNat))], s.2 ++ [.mk op n (s.1.drop (s.1.length - (Tree.arity op).toNat))]) := if_pos hst
      rw [hstep] at hsucc
      have hgo := ih k (i + 1) _ (by omega) hsucc (by omega)
      have hlen' : (((s.1.take (s.1.length - (Tree.arity op).toNat) ++ [Tree.Tr.mk op n (s.1.drop (s.1.length - (Tree.arity op).toNat))]).length : Nat) : Int) = wrap64 ((s.1.length : Int) + wrap64 (1 - Tree.arity op)) := by
        rw [List.length_append, List.length_take, List.length_singleton]
        unfold wrap64
        omega
      simp only [hlen'] at hgo
      obtain ⟨hN, hA⟩ := hst
      unfold Tree.numOK at hN
      have hop : 1 ≤ op ∧ op ≤ 11 := by
        by_cases h1 : op = 1
        · omega
        · rw [if_neg h1] at hN
          by_cases h2 : op = 2
          · omega
          · rw [if_neg h2] at hN
            have := of_decide_eq_true hN
            omega
      rw [if_pos hop, if_neg (by omega), if_neg (by omega)]
      by_cases h2 : op = 2
      · subst h2
        rw [if_neg (by omega), if_pos rfl] at hN
        have hN := of_decide_eq_true hN
        rw [if_pos rfl, if_neg (by omega), if_neg (by omega), if_neg (by decide)]
        exact hgo
      · rw [if_neg h2]
        by_cases h1 : op = 1
        · subst h1
          rw [if_neg (by decide)]
          exact hgo
        · rw [if_neg h1, if_neg h2] at hN
          have hN := of_decide_eq_true hN
          have hpos : Tree.arity op > 0 := by
            unfold Tree.arity
            rw [if_neg (by omega)]
            split
            · omega
            · split <;> omega
          rw [if_pos hpos, if_pos hN.2.2]
          exact hgo
    · rw [hfail (if_neg hst)]
      show _ = some false
      by_cases hop : 1 ≤ op ∧ op ≤ 11
      · rw [if_pos hop, if_neg (by omega)]
        by_cases ha : (s.1.length : Int) < Tree.arity op
        · rw [if_pos ha]
        · rw [if_neg ha]
          have hN : ¬ Tree.numOK op n = true := fun h => hst ⟨h, by omega⟩
          unfold Tree.numOK at hN
          by_cases h2 : op = 2
          · subst h2
            rw [if_neg (by omega), if_pos rfl] at hN
            have hN : ¬ (0 ≤ n ∧ n < 4) := fun h => hN (decide_eq_true h)
            rw [if_pos rfl]
            by_cases hn0 : n < 0
            · rw [if_pos hn0]
            · rw [if_neg hn0, if_pos (by omega)]
          · rw [if_neg h2]
            by_cases h1 : op = 1
            · exact absurd (if_pos h1) hN
            · rw [if_neg h1, if_neg h2] at hN
              have hN : ¬ (1 ≤ op ∧ op ≤ 11 ∧ n = 0) := fun h => hN (decide_eq_true h)
              have hpos : Tree.arity op > 0 := by
                unfold Tree.arity
                rw [if_neg (by omega)]
                split
                · omega
                · split <;> omega
              rw [if_pos hpos, if_neg (by omega)]
      · rw [if_neg hop, if_pos (by omega)]
theorem treeOf_isSome (t : List (Int × Int)) : (Tree.treeOf t).isSome = (decide (1 ≤ t.length ∧ t.length ≤ 40) && goodB (Tree.build t ([], []))) := by
  unfold Tree.treeOf Tree.treesOf
  by_cases h : 1 ≤ t.length ∧ t.length ≤ 40
  · rw [if_pos h, decide_eq_true h, Bool.true_and]
    cases hb : Tree.build t ([], []) with
    | none => rfl
    | some s =>
      show (Option.bind (if s.1.length = 1 then some s.2 else none) List.getLast?).isSome = (s.1.length == 1)
      by_cases h1 : s.1.length = 1
      · have hl := (Tree.build_len _ _ _ hb).2
        rw [if_pos h1, Option.bind_some, h1]
        cases hs : s.2 with
        | nil => rw [hs] at hl; simp at hl; omega
        | cons a l => rw [List.getLast?_cons]; rfl
      · rw [if_neg h1]
        simp [h1]
  · rw [if_neg h, decide_eq_false h]; rfl
theorem specGood_f (t : List S87) (hn : t.length ≤ 1048576) (k : Nat) (hk : t.length + 1 < k) : spec_GoodTerm.f k t = some (Tree.treeOf (toP t)).isSome := by
  unfold spec_GoodTerm.f spec_l1In.f
  rw [treeOf_isSome, toP_len]
  by_cases h0 : 1 ≤ t.length
  · rw [if_pos (by omega), Option.bind_some]
    by_cases h1 : t.length ≤ 40
    · rw [decide_eq_true (by omega), if_pos rfl, decide_eq_true (⟨h0, h1⟩ : 1 ≤ t.length ∧ t.length ≤ 40), Bool.true_and]
      exact specGood_run t hn t.length k 0 ([], []) (by omega) rfl hk
    · rw [decide_eq_false (by omega), if_neg (by simp), decide_eq_false (by omega)]; rfl
  · rw [if_neg (by omega), Option.bind_some, if_neg (by simp), decide_eq_false (by omega)]; rfl

theorem w64 (x : Int) (h0 : -9223372036854775808 ≤ x) (h1 : x ≤ 9223372036854775807) : wrap64 x = x := by unfold wrap64; omega
theorem w64s (i : Nat) (h : i ≤ 140737488355328) : wrap64 ((i : Int) + 1) = ((i + 1 : Nat) : Int) := by rw [w64 _ (by omega) (by omega)]; omega
theorem rd_nat (l : List Int) (i : Nat) : rd l (i : Int) = l.getD i 0 := by simp [rd]
theorem getD_lt (l : List Int) (i : Nat) (h : i < l.length) : l.getD i 0 = l[i] := by simp [List.getD_eq_getElem?_getD, h]

theorem laws_eqIntS_run (x0 : List Int) (hn : x0.length ≤ 140737488351232) (d : Nat) : ∀ (k i : Nat), i + d = x0.length → d < k → laws_eqIntS.l0 k x0 x0 (i : Int) = some true := by
  induction d with
  | zero =>
    intro k i hi hk
    obtain ⟨k, rfl⟩ : ∃ m, k = m + 1 := ⟨k - 1, by omega⟩
    simp only [laws_eqIntS.l0]
    rw [if_neg (by omega)]
  | succ d ih =>
    intro k i hi hk
    obtain ⟨k, rfl⟩ : ∃ m, k = m + 1 := ⟨k - 1, by omega⟩
    simp only [laws_eqIntS.l0]
    rw [if_pos (by omega), if_pos (by omega), if_pos (by omega), if_pos trivial, w64s i (by omega)]
    exact ih k (i + 1) (by omega) (by omega)
theorem laws_eqIntS_f (l : List Int) (hn : l.length ≤ 140737488351232) (k : Nat) (hk : l.length < k) : laws_eqIntS.f k l l = some true := by
  unfold laws_eqIntS.f
  rw [if_pos rfl]
  exact laws_eqIntS_run l hn l.length k 0 (by omega) hk

/-- What markIntS writes: numbers from one on. -/
def marked (xs : List Int) (m : Int) : List Int := (List.range xs.length).map fun j : Nat => m + (j : Int)
theorem laws_markIntS_run (n : Nat) (hn : n ≤ 140737480000000) (m0 : Nat) (hm0 : m0 ≤ 3000000) (d : Nat) : ∀ (k i : Nat) (x : List Int), i + d = n → x.length = n → (∀ j, j < i → x[j]? = some ((m0 : Int) + (j : Int))) → d < k →
    laws_markIntS.l0 k x (((m0 + i : Nat)) : Int) (i : Int) = some (((m0 + n : Nat) : Int), (List.range n).map fun j : Nat => ((m0 : Int) + (j : Int))) := by
  induction d with
  | zero =>
    intro k i x hi hl hj hk
    obtain ⟨k, rfl⟩ : ∃ m, k = m + 1 := ⟨k - 1, by omega⟩
    simp only [laws_markIntS.l0]
    rw [if_neg (by omega)]
    have e : i = n := by omega
    subst e
    congr 2
    apply List.ext_getElem?
    intro j
    by_cases h : j < i
    · rw [hj j h, List.getElem?_map, List.getElem?_range h]; rfl
    · rw [List.getElem?_eq_none (by omega), List.getElem?_eq_none (by simp; omega)]
  | succ d ih =>
    intro k i x hi hl hj hk
    obtain ⟨k, rfl⟩ : ∃ m, k = m + 1 := ⟨k - 1, by omega⟩
    simp only [laws_markIntS.l0]
    rw [if_pos (by omega), if_pos (by omega), w64s i (by omega), w64s (m0 + i) (by omega)]
    refine ih k (i + 1) _ (by omega) (by simpa using hl) ?_ (by omega)
    intro j hji
    rw [Int.toNat_natCast, List.getElem?_set]
    by_cases h : i = j
    · subst h
      rw [if_pos rfl, if_pos (by omega)]
      congr 1
    · rw [if_neg h]
      exact hj j (by omega)
theorem laws_heldIntS_run (n : Nat) (hn : n ≤ 140737480000000) (m0 : Nat) (hm0 : m0 ≤ 3000000) (d : Nat) : ∀ (k i : Nat), i + d = n → d < k →
    laws_heldIntS.l0 k ((List.range n).map fun j : Nat => ((m0 : Int) + (j : Int))) (((m0 + i : Nat)) : Int) (i : Int) = some (((m0 + n : Nat) : Int)) := by
  induction d with
  | zero =>
    intro k i hi hk
    obtain ⟨k, rfl⟩ : ∃ m, k = m + 1 := ⟨k - 1, by omega⟩
    simp only [laws_heldIntS.l0]
    rw [if_neg (by simp; omega)]
    congr 2
    omega
  | succ d ih =>
    intro k i hi hk
    obtain ⟨k, rfl⟩ : ∃ m, k = m + 1 := ⟨k - 1, by omega⟩
    simp only [laws_heldIntS.l0]
    have hr : rd ((List.range n).map fun j : Nat => ((m0 : Int) + (j : Int))) (i : Int) = ((m0 + i : Nat) : Int) := by
      rw [rd_nat, getD_lt _ _ (by simp; omega)]
      simp
    rw [if_pos (by simp; omega), if_pos (by omega), hr, if_pos rfl, w64s i (by omega), w64s (m0 + i) (by omega)]
    exact ih k (i + 1) (by omega) (by omega)
theorem laws_markIntS_f (x : List Int) (hn : x.length ≤ 140737480000000) (k : Nat) (hk : x.length < k) : laws_markIntS.f k x 1 = some (((1 + x.length : Nat) : Int), (List.range x.length).map fun j : Nat => ((1 : Nat) : Int) + (j : Int)) :=
  laws_markIntS_run x.length hn 1 (by omega) x.length k 0 x (by omega) rfl (fun j hj => by omega) hk
theorem laws_heldIntS_f (n : Nat) (hn : n ≤ 140737480000000) (k : Nat) (hk : n < k) : laws_heldIntS.f k ((List.range n).map fun j : Nat => ((1 : Nat) : Int) + (j : Int)) 1 = some (((1 + n : Nat) : Int)) :=
  laws_heldIntS_run n hn 1 (by omega) n k 0 (by omega) hk
theorem laws_markIntS_g (x : List Int) (hn : x.length ≤ 140737480000000) (m0 : Nat) (hm0 : m0 ≤ 3000000) (k : Nat) (hk : x.length < k) : laws_markIntS.f k x (m0 : Int) = some (((m0 + x.length : Nat) : Int), (List.range x.length).map fun j : Nat => (m0 : Int) + (j : Int)) :=
  laws_markIntS_run x.length hn m0 hm0 x.length k 0 x (by omega) rfl (fun j hj => by omega) hk

/-- What markNodeS writes: numbers from one on. -/
def mkN (m0 : Nat) (j : Nat) : S87 := ⟨((m0 + 2 * j : Nat) : Int), ((m0 + 2 * j + 1 : Nat) : Int)⟩
theorem markN_run (n : Nat) (hn : n ≤ 140737480000000) (m0 : Nat) (hm0 : m0 ≤ 300000000) (d : Nat) : ∀ (k i : Nat) (x : List S87), i + d = n → x.length = n → (∀ j, j < i → x[j]? = some (mkN m0 j)) → d < k →
    laws_markNodeS.l0 k x ((m0 + 2 * i : Nat) : Int) (i : Int) = some (((m0 + 2 * n : Nat) : Int), (List.range n).map (mkN m0)) := by
  induction d with
  | zero =>
    intro k i x hi hl hj hk
    obtain ⟨k, rfl⟩ : ∃ m, k = m + 1 := ⟨k - 1, by omega⟩
    simp only [laws_markNodeS.l0]
    rw [if_neg (by omega)]
    have e : i = n := by omega
    subst e
    congr 2
    apply List.ext_getElem?
    intro j
    by_cases h : j < i
    · rw [hj j h, List.getElem?_map, List.getElem?_range h]; rfl
    · rw [List.getElem?_eq_none (by omega), List.getElem?_eq_none (by simp; omega)]
  | succ d ih =>
    intro k i x hi hl hj hk
    obtain ⟨k, rfl⟩ : ∃ m, k = m + 1 := ⟨k - 1, by omega⟩
    simp only [laws_markNodeS.l0, Option.bind_some]
    have e1 : wrap64 (((m0 + 2 * i : Nat) : Int) + 1) = ((m0 + 2 * i + 1 : Nat) : Int) := by unfold wrap64; omega
    have e2 : wrap64 (((m0 + 2 * i + 1 : Nat) : Int) + 1) = ((m0 + 2 * (i + 1) : Nat) : Int) := by unfold wrap64; omega
    have e3 : (rd_T87 (x.set i ⟨((m0 + 2 * i : Nat) : Int), (rd_T87 x (i : Int)).f1⟩) (i : Int)).f0 = ((m0 + 2 * i : Nat) : Int) := by
      rw [rdN_nat, List.getD_eq_getElem?_getD, List.getElem?_set_self (by omega)]
      rfl
    rw [if_pos (by omega), if_pos (by omega), Int.toNat_natCast, e1, e2, wn64s i (by omega), e3]
    refine ih k (i + 1) _ (by omega) (by simpa using hl) ?_ (by omega)
    intro j hji
    rw [List.getElem?_set]
    by_cases h : i = j
    · subst h
      rw [if_pos rfl, if_pos (by simp; omega)]
      rfl
    · rw [if_neg h, List.getElem?_set_ne h]
      exact hj j (by omega)
theorem markN_f (x : List S87) (hn : x.length ≤ 140737480000000) (k : Nat) (hk : x.length < k) : laws_markNodeS.f k x 1 = some (((1 + 2 * x.length : Nat) : Int), (List.range x.length).map (mkN 1)) :=
  markN_run x.length hn 1 (by omega) x.length k 0 x (by omega) rfl (fun j hj => by omega) hk

theorem put_all : ∀ a b c d : Bool, ∀ n : Fin 4, spec_l1Put.f 7 (notedTo [a, b, c, d] 4) ((n.val : Nat) : Int) = some (notedTo ([a, b, c, d].set n.val true) 4) := by decide +kernel
theorem put_f (fs : List Bool) (h : fs.length = 4) (v : Int) (h0 : 0 ≤ v) (h4 : v < 4) (k : Nat) (hk : 7 ≤ k) : spec_l1Put.f k (notedTo fs 4) v = some (notedTo (fs.set v.toNat true) 4) := by
  match fs, h with
  | [a, b, c, d], _ =>
    have := put_all a b c d ⟨v.toNat, by omega⟩
    simp only at this
    rw [Int.toNat_of_nonneg h0] at this
    exact at_rounds (spec_l1Put.mono _ _) hk this
theorem one_all : ∀ n : Fin 4, [((n.val : Nat) : Int)] = notedTo (Tree.note (List.replicate 4 false) [((n.val : Nat) : Int)]) 4 := by decide +kernel
theorem notedTo_mem (gs : List Bool) (n i : Nat) (hi : i < n) : (notedTo gs n).contains (i : Int) = gs.getD i false := by
  rw [Bool.eq_iff_iff, List.contains_iff_mem]
  unfold notedTo
  rw [List.mem_map]
  constructor
  · rintro ⟨j, hj, e⟩
    have : j = i := by omega
    subst this
    exact (List.mem_filter.1 hj).2
  · intro h
    exact ⟨i, List.mem_filter.2 ⟨List.mem_range.2 hi, h⟩, rfl⟩
theorem notedTo_range (gs : List Bool) (n : Nat) : ∀ v ∈ notedTo gs n, 0 ≤ v ∧ v < (n : Int) := by
  intro v hv
  unfold notedTo at hv
  obtain ⟨j, hj, rfl⟩ := List.mem_map.1 hv
  have := List.mem_range.1 (List.mem_filter.1 hj).1
  omega
/-- Notes of notes are the notes. -/
theorem note_twice (fs : List Bool) (h : fs.length = 4) (vs : List Int) (hv : ∀ v ∈ vs, 0 ≤ v ∧ v < 4) : Tree.note fs (notedTo (Tree.note (List.replicate 4 false) vs) 4) = Tree.note fs vs := by
  have hl1 := Tree.note_len (notedTo (Tree.note (List.replicate 4 false) vs) 4) fs
  have hl2 := Tree.note_len vs fs
  apply List.ext_getElem (by omega)
  intro i h1 h2
  have g1 := Tree.note_get (notedTo (Tree.note (List.replicate 4 false) vs) 4) fs i (by omega) (fun v hv => (notedTo_range _ _ v hv).1)
  have g2 := Tree.note_get vs fs i (by omega) (fun v h => (hv v h).1)
  rw [notedTo_mem _ _ _ (by omega), Tree.note_get vs _ i (by simp; omega) (fun v h => (hv v h).1)] at g1
  rw [List.getD_eq_getElem?_getD, List.getElem?_eq_getElem h1] at g1
  rw [List.getD_eq_getElem?_getD, List.getElem?_eq_getElem h2] at g2
  have e : (List.replicate 4 false).getD i false = false := by
    rw [List.getD_eq_getElem?_getD, List.getElem?_replicate]
    split <;> rfl
  rw [e, Bool.false_or, ← g2] at g1
  simpa using g1
/-- The answer of VarsIn and SureVars. -/
def setOf (vs : List Int) : List Int := notedTo (Tree.note (List.replicate 4 false) vs) 4

/-- The laws VarsIn and SureVars once the reference says what the program says. -/
theorem lawTail (l : List S90) (p : List Int × Bool) (hp : p.1.length ≤ 100) (hs : ∀ k, 40 * l.length + 20 ≤ k → spec_VarsIn.f k (l.map cvN) = some p) (hi : impl_VarsIn.f (l.map cvN) = some p) (hl2 : l.length ≤ 1048576) : laws_FnExactVarsIn.f (40 * l.length + 200) l = some true := by
  have hm : (l.map cvN).length = l.length := List.length_map _
  have t0 := toN_f l hl2 (40 * l.length + 200) (by omega)
  have t1 := toN_f l hl2 (40 * l.length + 199) (by omega)
  have t2 := toN_f l hl2 (40 * l.length + 198) (by omega)
  have h1 := hs (40 * l.length + 200) (by omega)
  have q0 := laws_eqIntS_f p.1 (by omega) (40 * l.length + 200) (by omega)
  have q1 := laws_eqIntS_f p.1 (by omega) (40 * l.length + 199) (by omega)
  have q2 := laws_eqIntS_f p.1 (by omega) (40 * l.length + 198) (by omega)
  have q3 := eqN_f (l.map cvN) (by omega) (40 * l.length + 199) (by omega)
  have m1 := markN_f (l.map cvN) (by omega) (40 * l.length + 199) (by omega)
  have m2 := laws_markIntS_f p.1 (by omega) (40 * l.length + 198) (by omega)
  have d1 := laws_heldIntS_f p.1.length (by omega) (40 * l.length + 198) (by omega)
  have d2 := laws_heldIntS_f p.1.length (by omega) (40 * l.length + 197) (by omega)
  unfold laws_FnExactVarsIn.f
  rw [szN_f l 1048576 (by omega) (by omega) (by omega), Option.bind_some, if_neg (by omega)]
  simp only [t0, h1, hi, q0, Option.bind_some, if_true, bne_self_eq_false]
  simp only [laws_FnExactVarsIn.j0, t1, q3, m1, q1, Option.bind_some, if_true, Bool.false_eq_true, if_false, bne_self_eq_false]
  rw [if_neg (by omega)]
  simp only [laws_FnExactVarsIn.j1, m2, d1, t2, hi, q2, Option.bind_some, if_true, Bool.false_eq_true, if_false, bne_self_eq_false]
  rw [if_neg (by omega)]
  simp only [laws_FnExactVarsIn.j2, d2, Option.bind_some, if_true, Bool.false_eq_true, if_false]
  rw [if_neg (by omega)]

theorem vs_false : ∀ (n : Nat) (T : Tree.Tr), T.flat.length ≤ n → Tree.Good T → T.vs false = (T.flat.filter fun x => x.1 == 2).map (·.2) := by
  intro n
  induction n with
  | zero => intro T h; have := Tree.flat_pos T; omega
  | succ n ih =>
    intro T hsz hg
    have hf : T.flat.length = (Tree.flats T.kids).length + 1 := by rw [Tree.flat_eq]; simp
    have all : ∀ ks : List Tree.Tr, (Tree.flats ks).length ≤ n → (∀ k ∈ ks, Tree.Good k) → (ks.flatMap fun k => k.vs false) = ((Tree.flats ks).filter fun x => x.1 == 2).map (·.2) := by
      intro ks
      induction ks with
      | nil => intro _ _; simp [Tree.flats]
      | cons x t iht =>
        intro h1 h2
        simp only [Tree.flats, List.length_append] at h1
        rw [List.flatMap_cons, iht (by omega) (fun k hk => h2 k (List.mem_cons_of_mem _ hk)), ih x (by omega) (h2 x (List.mem_cons_self ..)), Tree.flats, List.filter_append, List.map_append]
    have e : T.eff false = T.kids := by unfold Tree.Tr.eff; rw [if_neg (by simp)]
    rw [Tree.vs_eq, e, all T.kids (by omega) hg.kids, Tree.flat_eq, List.filter_append, List.map_append]
    by_cases h2 : T.op = 2
    · have har := hg.arity
      rw [h2] at har
      have hk : T.kids = [] := by
        have : Tree.arity 2 = 0 := rfl
        exact List.eq_nil_of_length_eq_zero (by omega)
      rw [if_pos h2, hk, h2]
      simp [Tree.flats]
    · have hb : (T.op == 2) = false := by simp [h2]
      rw [if_neg h2, List.filter_cons, List.filter_nil, hb]
      simp
theorem vars_run (t : List S87) (hn : t.length ≤ 1048576) (hok : ∀ x ∈ toP t, x.1 = 2 → 0 ≤ x.2 ∧ x.2 < 4) (d : Nat) : ∀ (k i : Nat) (fs : List Bool), i + d = t.length → fs.length = 4 → d + 8 < k →
    spec_l2Vars.l0 k (notedTo fs 4) t (t.length : Int) (i : Int) = some (notedTo (Tree.note fs ((((toP t).drop i).filter fun x => x.1 == 2).map (·.2))) 4) := by
  induction d with
  | zero =>
    intro k i fs hi hl hk
    obtain ⟨k, rfl⟩ : ∃ m, k = m + 1 := ⟨k - 1, by omega⟩
    unfold spec_l2Vars.l0
    rw [if_neg (by omega), List.drop_of_length_le (by rw [toP_len]; omega)]
    rfl
  | succ d ih =>
    intro k i fs hi hl hk
    obtain ⟨k, rfl⟩ : ∃ m, k = m + 1 := ⟨k - 1, by omega⟩
    have hil : i < (toP t).length := by rw [toP_len]; omega
    have hil2 : i < t.length := by omega
    have hx : (toP t)[i] = ((rd_T87 t (i : Int)).f0, (rd_T87 t (i : Int)).f1) := by
      have : (toP t)[i]? = some ((rd_T87 t (i : Int)).f0, (rd_T87 t (i : Int)).f1) := by
        unfold toP
        rw [rdN_nat, List.getElem?_map, List.getD_eq_getElem?_getD, List.getElem?_eq_getElem hil2]
        rfl
      rw [List.getElem?_eq_getElem hil] at this
      exact Option.some.inj this
    have ho := hok _ (List.getElem_mem hil)
    rw [hx] at ho
    simp only at ho
    rw [List.drop_eq_getElem_cons hil, List.filter_cons, hx]
    unfold spec_l2Vars.l0
    rw [if_pos (by omega), if_pos (by omega), if_pos (by omega), wn64s i (by omega)]
    generalize (rd_T87 t (i : Int)).f0 = op at ho ⊢
    generalize (rd_T87 t (i : Int)).f1 = v at ho ⊢
    by_cases h2 : op = 2
    · have hb : (op == 2) = true := by simp [h2]
      rw [if_pos h2, put_f fs hl v (ho h2).1 (ho h2).2 k (by omega), Option.bind_some, ih k (i + 1) _ (by omega) (by rw [List.length_set]; exact hl) (by omega)]
      simp only [hb, if_true, List.map_cons]
      rfl
    · have hb : (op == 2) = false := by simp [h2]
      rw [if_neg h2, ih k (i + 1) _ (by omega) hl (by omega)]
      simp only [hb, Bool.false_eq_true, if_false]
theorem vars_same (t : List S87) (hn : t.length ≤ 1048576) (k : Nat) (hk : t.length + 10 ≤ k) : spec_VarsIn.f k t = impl_VarsIn.f t := by
  unfold spec_VarsIn.f impl_VarsIn.f
  rw [specGood_f t hn k (by omega), Option.bind_some]
  cases hT : Tree.treeOf (toP t) with
  | none => rfl
  | some T =>
    obtain ⟨hg, hfl, hl⟩ := Tree.treeOf_flat hT
    have hops := (Tree.treeOf_ok (by rw [hT]; rfl)).2.2
    have hrun := vars_run t hn (fun x hx h2 => by
      have := hops x hx
      rw [h2] at this
      unfold Tree.numOK at this
      rw [if_neg (by omega), if_pos rfl] at this
      exact of_decide_eq_true this) t.length k 0 (List.replicate 4 false) (by omega) (by simp) (by omega)
    have hvs := vs_false T.flat.length T (Nat.le_refl _) hg
    rw [hfl] at hvs
    rw [List.drop_zero, ← hvs] at hrun
    have hrun' : spec_l2Vars.f k t = some (notedTo (Tree.note (List.replicate 4 false) (T.vs false)) 4) := hrun
    show (if true = true then _ else _) = _
    rw [if_pos rfl, hrun']
    rfl
theorem FnExactVarsIn : RdFnExactVarsIn.Pure := by
  intro l hl _
  refine ⟨40 * l.length + 200, ?_⟩
  by_cases h : (1048576 : Int) - (l.length : Int) < 0
  · unfold laws_FnExactVarsIn.f
    rw [szN_f l 1048576 (by omega) (by omega) hl, Option.bind_some]
    simp only [if_pos h]; rfl
  · have hm : (l.map cvN).length = l.length := List.length_map _
    have hsome : ∃ p, impl_VarsIn.f (l.map cvN) = some p ∧ p.1.length ≤ 100 := by
      unfold impl_VarsIn.f
      cases Tree.treeOf (toP (l.map cvN)) with
      | none => exact ⟨_, rfl, by simp⟩
      | some T => exact ⟨_, rfl, Nat.le_trans (notedTo_len _ 4) (by omega)⟩
    obtain ⟨p, hp, hpl⟩ := hsome
    exact lawTail l p hpl (fun k hk => by rw [vars_same (l.map cvN) (by omega) k (by omega)]; exact hp) hp (by omega)

end Go.Proofs.Ytlneknaiimmfmaa.Pure
