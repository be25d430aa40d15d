/- The program's SureVars and the reference's answer alike at every list of nodes; no condition. -/
import Derived.Test.YtlneknaiimmfmaaPFnExactSureVarsx6
import Derived.Test.YtlneknaiimmfmaaRdFnExactSureVars
import Derived.Test.YtlneknaiimmfmaaTreeVars
set_option linter.unusedVariables false
set_option linter.unusedSimpArgs false
namespace Go.Proofs.Ytlneknaiimmfmaa.Pure
open Go.RowKit Go.Proofs.Ytlneknaiimmfmaa.PFnExactSureVars Go.Proofs.YtlneknaiimmfmaaW.PrintWords Go.Proofs.YtlneknaiimmfmaaW.PrintLast Go.Proofs.YtlneknaiimmfmaaW.PrintMore

theorem wn64s (i : Nat) (h : i ≤ 140737488355328) : wrap64 ((i : Int) + 1) = ((i + 1 : Nat) : Int) := by unfold wrap64; omega
def cvN (x : S90) : S87 := ⟨x.f0, x.f1⟩
theorem rdN_nat (l : List S87) (i : Nat) : rd_T87 l (i : Int) = l.getD i z87 := by simp [rd_T87]
theorem szN_f (l : List S90) (m : Int) (hm0 : 0 ≤ m) (hm : m ≤ 1048576) (hl : l.length ≤ 9223372036854775807) : laws_szNodeS.f l m = some (if m - (l.length : Int) < 0 then -1 else m - (l.length : Int)) := by
  unfold laws_szNodeS.f
  have e : wrap64 (m - (l.length : Int)) = m - (l.length : Int) := by unfold wrap64; omega
  rw [e]
  split <;> rfl
theorem toN_run (x0 : List S90) (hn : x0.length ≤ 140737488351232) (d : Nat) : ∀ (k i : Nat) (x3 : List S87), i + d = x0.length → x3.length = x0.length → (∀ j, j < i → x3[j]? = (x0.map cvN)[j]?) → d < k →
    laws_toNodeS.l0 k x0 x3 (i : Int) = some (x0.map cvN) := by
  induction d with
  | zero =>
    intro k i x3 hi hl hj hk
    obtain ⟨k, rfl⟩ : ∃ m, k = m + 1 := ⟨k - 1, by omega⟩
    simp only [laws_toNodeS.l0]
    rw [if_neg (by omega)]
    congr 1
    apply List.ext_getElem?
    intro j
    by_cases h : j < i
    · exact hj j h
    · rw [List.getElem?_eq_none (by omega), List.getElem?_eq_none (by rw [List.length_map]; omega)]
  | succ d ih =>
    intro k i x3 hi hl hj hk
    obtain ⟨k, rfl⟩ : ∃ m, k = m + 1 := ⟨k - 1, by omega⟩
    simp only [laws_toNodeS.l0, laws_toNode.f, Option.bind_some]
    rw [if_pos (by omega), if_pos (by omega), if_pos (by omega), wn64s i (by omega)]
    refine ih k (i + 1) _ (by omega) (by simpa using hl) ?_ (by omega)
    intro j hji
    rw [Int.toNat_natCast, List.getElem?_set]
    by_cases h : i = j
    · subst h
      rw [if_pos rfl, if_pos (by omega), List.getElem?_map, List.getElem?_eq_getElem (by omega)]
      simp [rd_T90, cvN, List.getD_eq_getElem?_getD, List.getElem?_eq_getElem (show i < x0.length by omega)]
    · rw [if_neg h]
      exact hj j (by omega)
theorem toN_f (l : List S90) (hn : l.length ≤ 1048576) (k : Nat) (hk : l.length < k) : laws_toNodeS.f k l = some (l.map cvN) := by
  unfold laws_toNodeS.f
  rw [if_pos (by omega), if_pos (by omega)]
  exact toN_run l (by omega) l.length k 0 _ (by omega) (by simp) (fun j hj => by omega) hk
theorem eqN_run (x0 : List S87) (hn : x0.length ≤ 140737488351232) (d : Nat) : ∀ (k i : Nat), i + d = x0.length → d < k → laws_eqNodeS.l0 k x0 x0 (i : Int) = some true := by
  induction d with
  | zero =>
    intro k i hi hk
    obtain ⟨k, rfl⟩ : ∃ m, k = m + 1 := ⟨k - 1, by omega⟩
    simp only [laws_eqNodeS.l0]
    rw [if_neg (by omega)]
  | succ d ih =>
    intro k i hi hk
    obtain ⟨k, rfl⟩ : ∃ m, k = m + 1 := ⟨k - 1, by omega⟩
    simp only [laws_eqNodeS.l0, laws_eqNode.f]
    rw [if_pos (by omega), if_pos (by omega), if_pos (by omega), if_pos trivial, if_pos trivial, Option.bind_some, if_pos rfl, wn64s i (by omega)]
    exact ih k (i + 1) (by omega) (by omega)
theorem eqN_f (l : List S87) (hn : l.length ≤ 140737488351232) (k : Nat) (hk : l.length < k) : laws_eqNodeS.f k l l = some true := by
  unfold laws_eqNodeS.f
  rw [if_pos rfl]
  exact eqN_run l hn l.length k 0 (by omega) hk

theorem specArity_f (k : Nat) (hk : 0 < k) (op : Int) : spec_l1Arity.f k op = some (if 1 ≤ op ∧ op ≤ 11 then Tree.arity op else -1) := by
  obtain ⟨k, rfl⟩ : ∃ m, k = m + 1 := ⟨k - 1, by omega⟩
  unfold spec_l1Arity.f Tree.arity
  by_cases h1 : op = 1
  · subst h1; rfl
  · rw [if_neg h1]
    by_cases h2 : op = 2
    · subst h2; rfl
    · rw [if_neg (by omega : ¬ (op = 1 ∨ op = 2))]
      simp only [spec_l1Arity.j0]
      rw [if_neg (by simpa using h2)]
      by_cases h3 : op = 3
      · subst h3; rfl
      · rw [if_neg h3, if_neg h3]
        by_cases h4 : op = 11
        · subst h4; rfl
        · rw [if_neg h4, if_neg h4]
          unfold spec_l1In.f
          by_cases h5 : op ≥ 4
          · by_cases h6 : op ≤ 10
            · rw [if_pos h5, Option.bind_some, decide_eq_true h6, if_pos rfl, if_pos (by omega)]
            · rw [if_pos h5, Option.bind_some, decide_eq_false h6, if_neg (by simp), if_neg (by omega)]
          · rw [if_neg h5, Option.bind_some, if_neg (by simp), if_neg (by omega)]
/-- How many trees a list of nodes leaves. -/
def goodB (r : Option (List Tree.Tr × List Tree.Tr)) : Bool := match r with | some s => s.1.length == 1 | none => false
theorem specGood_run (t : List S87) (hn : t.length ≤ 1048576) (d : Nat) : ∀ (k i : Nat) (s : List Tree.Tr × List Tree.Tr), i + d = t.length → Tree.build (toP (t.take i)) ([], []) = some s → d + 1 < k →
    spec_GoodTerm.l0 k (s.1.length : Int) t (t.length : Int) (i : Int) = some (goodB (Tree.build (toP t) ([], []))) := by
  induction d with
  | zero =>
    intro k i s hi hs hk
    obtain ⟨k, rfl⟩ : ∃ m, k = m + 1 := ⟨k - 1, by omega⟩
    simp only [spec_GoodTerm.l0]
    have e : t.take i = t := List.take_of_length_le (by omega)
    rw [e] at hs
    rw [if_neg (by omega), hs]
    show some ((s.1.length : Int) == 1) = some (s.1.length == 1)
    congr 1
    rw [Bool.eq_iff_iff]; simp; omega
  | succ d ih =>
    intro k i s hi hs hk
    obtain ⟨k, rfl⟩ : ∃ m, k = m + 1 := ⟨k - 1, by omega⟩
    simp only [spec_GoodTerm.l0]
    rw [if_pos (by omega), if_pos (by omega), if_pos (by omega), specArity_f k (by omega), Option.bind_some, wn64s i (by omega), rdN_nat]
    have hlen := (Tree.build_len _ _ _ hs).1
    rw [toP_len, List.length_take] at hlen
    have hl2 : s.1.length ≤ t.length := by simp at hlen; omega
    have hsucc := build_succ t i (by omega) hs
    have hfail := build_fail t i (by omega) hs
    generalize t.getD i z87 = x at hsucc hfail ⊢
    obtain ⟨op, n⟩ := x
    simp only at hsucc hfail ⊢
    have hr := Tree.arity_range op
    have hbad : (Tree.numOK op n = true ∧ Tree.arity op ≤ (s.1.length : Int)) → False → True := fun _ _ => trivial
    by_cases hst : Tree.numOK op n = true ∧ Tree.arity op ≤ (s.1.length : Int)
    · have hstep : Tree.step s (op, n) = some (s.1.take (s.1.length - (Tree.arity op).toNat) ++ [.mk op n (s.1.drop (s.1.length - (Tree.arity op).toNat))], s.2 ++ [.mk op n (s.1.drop (s.1.length - (Tree.arity op).toNat))]) := if_pos hst
      rw [hstep] at hsucc
      have hgo := ih k (i + 1) _ (by omega) hsucc (by omega)
      have hlen' : (((s.1.take (s.1.length - (Tree.arity op).toNat) ++ [Tree.Tr.mk op n (s.1.drop (s.1.length - (Tree.arity op).toNat))]).length : Nat) : Int) = wrap64 ((s.1.length : Int) + wrap64 (1 - Tree.arity op)) := by
        rw [List.length_append, List.length_take, List.length_singleton]
        unfold wrap64
        omega
      simp only [hlen'] at hgo
      obtain ⟨hN, hA⟩ := hst
      unfold Tree.numOK at hN
      have hop : 1 ≤ op ∧ op ≤ 11 := by
        by_cases h1 : op = 1
        · omega
        · rw [if_neg h1] at hN
          by_cases h2 : op = 2
          · omega
          · rw [if_neg h2] at hN
            have := of_decide_eq_true hN
            omega
      rw [if_pos hop, if_neg (by omega), if_neg (by omega)]
      by_cases h2 : op = 2
      · subst h2
        rw [if_neg (by omega), if_pos rfl] at hN
        have hN := of_decide_eq_true hN
        rw [if_pos rfl, if_neg (by omega), if_neg (by omega), if_neg (by decide)]
        exact hgo
      · rw [if_neg h2]
        by_cases h1 : op = 1
        · subst h1
          rw [if_neg (by decide)]
          exact hgo
        · rw [if_neg h1, if_neg h2] at hN
          have hN := of_decide_eq_true hN
          have hpos : Tree.arity op > 0 := by
            unfold Tree.arity
            rw [if_neg (by omega)]
            split
            · omega
            · split <;> omega
          rw [if_pos hpos, if_pos hN.2.2]
          exact hgo
    · rw [hfail (if_neg hst)]
      show _ = some false
      by_cases hop : 1 ≤ op ∧ op ≤ 11
      · rw [if_pos hop, if_neg (by omega)]
        by_cases ha : (s.1.length : Int) < Tree.arity op
        · rw [if_pos ha]
        · rw [if_neg ha]
          have hN : ¬ Tree.numOK op n = true := fun h => hst ⟨h, by omega⟩
          unfold Tree.numOK at hN
          by_cases h2 : op = 2
          · subst h2
            rw [if_neg (by omega), if_pos rfl] at hN
            have hN : ¬ (0 ≤ n ∧ n < 4) := fun h => hN (decide_eq_true h)
            rw [if_pos rfl]
            by_cases hn0 : n < 0
            · rw [if_pos hn0]
            · rw [if_neg hn0, if_pos (by omega)]
          · rw [if_neg h2]
            by_cases h1 : op = 1
            · exact absurd (if_pos h1) hN
            · rw [if_neg h1, if_neg h2] at hN
              have hN : ¬ (1 ≤ op ∧ op ≤ 11 ∧ n = 0) := fun h => hN (decide_eq_true h)
              have hpos : Tree.arity op > 0 := by
                unfold Tree.arity
                rw [if_neg (by omega)]
                split
                · omega
                · split <;> omega
              rw [if_pos hpos, if_neg (by omega)]
      · rw [if_neg hop, if_pos (by omega)]
theorem treeOf_isSome (t : List (Int × Int)) : (Tree.treeOf t).isSome = (decide (1 ≤ t.length ∧ t.length ≤ 40) && goodB (Tree.build t ([], []))) := by
  unfold Tree.treeOf Tree.treesOf
  by_cases h : 1 ≤ t.length ∧ t.length ≤ 40
  · rw [if_pos h, decide_eq_true h, Bool.true_and]
    cases hb : Tree.build t ([], []) with
    | none => rfl
    | some s =>
      show (Option.bind (if s.1.length = 1 then some s.2 else none) List.getLast?).isSome = (s.1.length == 1)
      by_cases h1 : s.1.length = 1
      · have hl := (Tree.build_len _ _ _ hb).2
        rw [if_pos h1, Option.bind_some, h1]
        cases hs : s.2 with
        | nil => rw [hs] at hl; simp at hl; omega
        | cons a l => rw [List.getLast?_cons]; rfl
      · rw [if_neg h1]
        simp [h1]
  · rw [if_neg h, decide_eq_false h]; rfl
theorem specGood_f (t : List S87) (hn : t.length ≤ 1048576) (k : Nat) (hk : t.length + 1 < k) : spec_GoodTerm.f k t = some (Tree.treeOf (toP t)).isSome := by
  unfold spec_GoodTerm.f spec_l1In.f
  rw [treeOf_isSome, toP_len]
  by_cases h0 : 1 ≤ t.length
  · rw [if_pos (by omega), Option.bind_some]
    by_cases h1 : t.length ≤ 40
    · rw [decide_eq_true (by omega), if_pos rfl, decide_eq_true (⟨h0, h1⟩ : 1 ≤ t.length ∧ t.length ≤ 40), Bool.true_and]
      exact specGood_run t hn t.length k 0 ([], []) (by omega) rfl hk
    · rw [decide_eq_false (by omega), if_neg (by simp), decide_eq_false (by omega)]; rfl
  · rw [if_neg (by omega), Option.bind_some, if_neg (by simp), decide_eq_false (by omega)]; rfl

theorem w64 (x : Int) (h0 : -9223372036854775808 ≤ x) (h1 : x ≤ 9223372036854775807) : wrap64 x = x := by unfold wrap64; omega
theorem w64s (i : Nat) (h : i ≤ 140737488355328) : wrap64 ((i : Int) + 1) = ((i + 1 : Nat) : Int) := by rw [w64 _ (by omega) (by omega)]; omega
theorem rd_nat (l : List Int) (i : Nat) : rd l (i : Int) = l.getD i 0 := by simp [rd]
theorem getD_lt (l : List Int) (i : Nat) (h : i < l.length) : l.getD i 0 = l[i] := by simp [List.getD_eq_getElem?_getD, h]

theorem laws_eqIntS_run (x0 : List Int) (hn : x0.length ≤ 140737488351232) (d : Nat) : ∀ (k i : Nat), i + d = x0.length → d < k → laws_eqIntS.l0 k x0 x0 (i : Int) = some true := by
  induction d with
  | zero =>
    intro k i hi hk
    obtain ⟨k, rfl⟩ : ∃ m, k = m + 1 := ⟨k - 1, by omega⟩
    simp only [laws_eqIntS.l0]
    rw [if_neg (by omega)]
  | succ d ih =>
    intro k i hi hk
    obtain ⟨k, rfl⟩ : ∃ m, k = m + 1 := ⟨k - 1, by omega⟩
    simp only [laws_eqIntS.l0]
    rw [if_pos (by omega), if_pos (by omega), if_pos (by omega), if_pos trivial, w64s i (by omega)]
    exact ih k (i + 1) (by omega) (by omega)
theorem laws_eqIntS_f (l : List Int) (hn : l.length ≤ 140737488351232) (k : Nat) (hk : l.length < k) : laws_eqIntS.f k l l = some true := by
  unfold laws_eqIntS.f
  rw [if_pos rfl]
  exact laws_eqIntS_run l hn l.length k 0 (by omega) hk

/-- What markIntS writes: numbers from one on. -/
def marked (xs : List Int) (m : Int) : List Int := (List.range xs.length).map fun j : Nat => m + (j : Int)
theorem laws_markIntS_run (n : Nat) (hn : n ≤ 140737480000000) (m0 : Nat) (hm0 : m0 ≤ 3000000) (d : Nat) : ∀ (k i : Nat) (x : List Int), i + d = n → x.length = n → (∀ j, j < i → x[j]? = some ((m0 : Int) + (j : Int))) → d < k →
    laws_markIntS.l0 k x (((m0 + i : Nat)) : Int) (i : Int) = some (((m0 + n : Nat) : Int), (List.range n).map fun j : Nat => ((m0 : Int) + (j : Int))) := by
  induction d with
  | zero =>
    intro k i x hi hl hj hk
    obtain ⟨k, rfl⟩ : ∃ m, k = m + 1 := ⟨k - 1, by omega⟩
    simp only [laws_markIntS.l0]
    rw [if_neg (by omega)]
    have e : i = n := by omega
    subst e
    congr 2
    apply List.ext_getElem?
    intro j
    by_cases h : j < i
    · rw [hj j h, List.getElem?_map, List.getElem?_range h]; rfl
    · rw [List.getElem?_eq_none (by omega), List.getElem?_eq_none (by simp; omega)]
  | succ d ih =>
    intro k i x hi hl hj hk
    obtain ⟨k, rfl⟩ : ∃ m, k = m + 1 := ⟨k - 1, by omega⟩
    simp only [laws_markIntS.l0]
    rw [if_pos (by omega), if_pos (by omega), w64s i (by omega), w64s (m0 + i) (by omega)]
    refine ih k (i + 1) _ (by omega) (by simpa using hl) ?_ (by omega)
    intro j hji
    rw [Int.toNat_natCast, List.getElem?_set]
    by_cases h : i = j
    · subst h
      rw [if_pos rfl, if_pos (by omega)]
      congr 1
    · rw [if_neg h]
      exact hj j (by omega)
theorem laws_heldIntS_run (n : Nat) (hn : n ≤ 140737480000000) (m0 : Nat) (hm0 : m0 ≤ 3000000) (d : Nat) : ∀ (k i : Nat), i + d = n → d < k →
    laws_heldIntS.l0 k ((List.range n).map fun j : Nat => ((m0 : Int) + (j : Int))) (((m0 + i : Nat)) : Int) (i : Int) = some (((m0 + n : Nat) : Int)) := by
  induction d with
  | zero =>
    intro k i hi hk
    obtain ⟨k, rfl⟩ : ∃ m, k = m + 1 := ⟨k - 1, by omega⟩
    simp only [laws_heldIntS.l0]
    rw [if_neg (by simp; omega)]
    congr 2
    omega
  | succ d ih =>
    intro k i hi hk
    obtain ⟨k, rfl⟩ : ∃ m, k = m + 1 := ⟨k - 1, by omega⟩
    simp only [laws_heldIntS.l0]
    have hr : rd ((List.range n).map fun j : Nat => ((m0 : Int) + (j : Int))) (i : Int) = ((m0 + i : Nat) : Int) := by
      rw [rd_nat, getD_lt _ _ (by simp; omega)]
      simp
    rw [if_pos (by simp; omega), if_pos (by omega), hr, if_pos rfl, w64s i (by omega), w64s (m0 + i) (by omega)]
    exact ih k (i + 1) (by omega) (by omega)
theorem laws_markIntS_f (x : List Int) (hn : x.length ≤ 140737480000000) (k : Nat) (hk : x.length < k) : laws_markIntS.f k x 1 = some (((1 + x.length : Nat) : Int), (List.range x.length).map fun j : Nat => ((1 : Nat) : Int) + (j : Int)) :=
  laws_markIntS_run x.length hn 1 (by omega) x.length k 0 x (by omega) rfl (fun j hj => by omega) hk
theorem laws_heldIntS_f (n : Nat) (hn : n ≤ 140737480000000) (k : Nat) (hk : n < k) : laws_heldIntS.f k ((List.range n).map fun j : Nat => ((1 : Nat) : Int) + (j : Int)) 1 = some (((1 + n : Nat) : Int)) :=
  laws_heldIntS_run n hn 1 (by omega) n k 0 (by omega) hk
theorem laws_markIntS_g (x : List Int) (hn : x.length ≤ 140737480000000) (m0 : Nat) (hm0 : m0 ≤ 3000000) (k : Nat) (hk : x.length < k) : laws_markIntS.f k x (m0 : Int) = some (((m0 + x.length : Nat) : Int), (List.range x.length).map fun j : Nat => (m0 : Int) + (j : Int)) :=
  laws_markIntS_run x.length hn m0 hm0 x.length k 0 x (by omega) rfl (fun j hj => by omega) hk

/-- What markNodeS writes: numbers from one on. -/
def mkN (m0 : Nat) (j : Nat) : S87 := ⟨((m0 + 2 * j : Nat) : Int), ((m0 + 2 * j + 1 : Nat) : Int)⟩
theorem markN_run (n : Nat) (hn : n ≤ 140737480000000) (m0 : Nat) (hm0 : m0 ≤ 300000000) (d : Nat) : ∀ (k i : Nat) (x : List S87), i + d = n → x.length = n → (∀ j, j < i → x[j]? = some (mkN m0 j)) → d < k →
    laws_markNodeS.l0 k x ((m0 + 2 * i : Nat) : Int) (i : Int) = some (((m0 + 2 * n : Nat) : Int), (List.range n).map (mkN m0)) := by
  induction d with
  | zero =>
    intro k i x hi hl hj hk
    obtain ⟨k, rfl⟩ : ∃ m, k = m + 1 := ⟨k - 1, by omega⟩
    simp only [laws_markNodeS.l0]
    rw [if_neg (by omega)]
    have e : i = n := by omega
    subst e
    congr 2
    apply List.ext_getElem?
    intro j
    by_cases h : j < i
    · rw [hj j h, List.getElem?_map, List.getElem?_range h]; rfl
    · rw [List.getElem?_eq_none (by omega), List.getElem?_eq_none (by simp; omega)]
  | succ d ih =>
    intro k i x hi hl hj hk
    obtain ⟨k, rfl⟩ : ∃ m, k = m + 1 := ⟨k - 1, by omega⟩
    simp only [laws_markNodeS.l0, Option.bind_some]
    have e1 : wrap64 (((m0 + 2 * i : Nat) : Int) + 1) = ((m0 + 2 * i + 1 : Nat) : Int) := by unfold wrap64; omega
    have e2 : wrap64 (((m0 + 2 * i + 1 : Nat) : Int) + 1) = ((m0 + 2 * (i + 1) : Nat) : Int) := by unfold wrap64; omega
    have e3 : (rd_T87 (x.set i ⟨((m0 + 2 * i : Nat) : Int), (rd_T87 x (i : Int)).f1⟩) (i : Int)).f0 = ((m0 + 2 * i : Nat) : Int) := by
      rw [rdN_nat, List.getD_eq_getElem?_getD, List.getElem?_set_self (by omega)]
      rfl
    rw [if_pos (by omega), if_pos (by omega), Int.toNat_natCast, e1, e2, wn64s i (by omega), e3]
    refine ih k (i + 1) _ (by omega) (by simpa using hl) ?_ (by omega)
    intro j hji
    rw [List.getElem?_set]
    by_cases h : i = j
    · subst h
      rw [if_pos rfl, if_pos (by simp; omega)]
      rfl
    · rw [if_neg h, List.getElem?_set_ne h]
      exact hj j (by omega)
theorem markN_f (x : List S87) (hn : x.length ≤ 140737480000000) (k : Nat) (hk : x.length < k) : laws_markNodeS.f k x 1 = some (((1 + 2 * x.length : Nat) : Int), (List.range x.length).map (mkN 1)) :=
  markN_run x.length hn 1 (by omega) x.length k 0 x (by omega) rfl (fun j hj => by omega) hk

theorem toP_get (t : List S87) (i : Nat) (x : Int × Int) (h : (toP t)[i]? = some x) : i < t.length ∧ (rd_T87 t (i : Int)).f0 = x.1 ∧ (rd_T87 t (i : Int)).f1 = x.2 := by
  unfold toP at h
  rw [List.getElem?_map] at h
  cases hi : t[i]? with
  | none => rw [hi] at h; exact absurd h (by simp)
  | some y =>
    rw [hi] at h
    injection h with h
    obtain ⟨hl, e⟩ := List.getElem?_eq_some_iff.1 hi
    rw [rdN_nat, List.getD_eq_getElem?_getD, hi]
    subst h
    exact ⟨hl, rfl, rfl⟩
/-- The node at the end of a tree's nodes. -/
theorem rd_flat (t : List S87) (pre post : List (Int × Int)) (T : Tree.Tr) (h : toP t = pre ++ T.flat ++ post) (i : Nat) (hi : i + 1 = pre.length + T.flat.length) : i < t.length ∧ (rd_T87 t (i : Int)).f0 = T.op ∧ (rd_T87 t (i : Int)).f1 = T.n := by
  refine toP_get t i (T.op, T.n) ?_
  rw [Tree.flat_eq, List.length_append, List.length_singleton] at hi
  rw [h, Tree.flat_eq, List.append_assoc, List.append_assoc, List.getElem?_append_right (by omega), List.getElem?_append_right (by omega)]
  have e : i - pre.length - (Tree.flats T.kids).length = 0 := by omega
  rw [e]
  rfl
theorem arity_good (k : Nat) (hk : 0 < k) {T : Tree.Tr} (hg : Tree.Good T) : spec_l1Arity.f k T.op = some (T.kids.length : Int) := by
  rw [specArity_f k hk, if_pos (Tree.numOK_op hg.num), hg.arity]
theorem from_f (t : List S87) (hn : t.length ≤ 1048576) : ∀ (n : Nat) (T : Tree.Tr), T.flat.length ≤ n → Tree.Good T → ∀ (pre post : List (Int × Int)), toP t = pre ++ T.flat ++ post → ∀ (i : Nat), i + 1 = pre.length + T.flat.length → ∀ (k : Nat), 2 * T.flat.length + 1 ≤ k →
    spec_l2From.f k t (i : Int) = some (pre.length : Int) := by
  intro n
  induction n with
  | zero => intro T h; have := Tree.flat_pos T; omega
  | succ n ih =>
    intro T hsz hg pre post h i hi k hk
    obtain ⟨hil, ho, -⟩ := rd_flat t pre post T h i hi
    have hf : T.flat.length = (Tree.flats T.kids).length + 1 := by rw [Tree.flat_eq]; simp
    obtain ⟨k, rfl⟩ : ∃ m, k = m + 1 := ⟨k - 1, by omega⟩
    unfold spec_l2From.f
    rw [if_pos (by omega), if_pos (by omega), ho, arity_good k (by omega) hg, Option.bind_some]
    have loop : ∀ (j : Nat), j ≤ T.kids.length → ∀ (post' : List (Int × Int)), toP t = pre ++ Tree.flats (T.kids.take j) ++ post' → ∀ (k : Nat), 2 * (Tree.flats (T.kids.take j)).length + 2 ≤ k →
        spec_l2From.l0 k t ((pre.length + (Tree.flats (T.kids.take j)).length : Nat) : Int) (j : Int) = some (pre.length : Int) := by
      intro j
      induction j with
      | zero =>
        intro _ post' _ k hk
        obtain ⟨k, rfl⟩ : ∃ m, k = m + 1 := ⟨k - 1, by omega⟩
        unfold spec_l2From.l0
        rw [if_neg (by omega)]
        simp [Tree.flats]
      | succ j ihj =>
        intro hj post' hp k hk
        obtain ⟨k, rfl⟩ : ∃ m, k = m + 1 := ⟨k - 1, by omega⟩
        have hj' : j < T.kids.length := by omega
        have hK : T.kids[j]? = some T.kids[j] := List.getElem?_eq_getElem hj'
        have hKg : Tree.Good T.kids[j] := hg.kids _ (List.getElem_mem hj')
        have hKs := Tree.flats_len_mem (List.getElem_mem hj')
        generalize T.kids[j] = K at hK hKg hKs
        have hK1 := Tree.flat_pos K
        have hsucc := Tree.flats_take_succ T.kids j hK
        have hle := Tree.flats_take_le T.kids (j + 1)
        have hsplit : Tree.flats (T.kids.take (j + 1)) = Tree.flats (T.kids.take j) ++ K.flat := by
          obtain ⟨hi', e⟩ := List.getElem?_eq_some_iff.1 hK
          rw [List.take_succ_eq_append_getElem hi', Tree.flats_append, e]
          simp [Tree.flats]
        rw [hsplit] at hp
        have hp1 : toP t = (pre ++ Tree.flats (T.kids.take j)) ++ K.flat ++ post' := by rw [hp]; simp
        have hp2 : toP t = pre ++ Tree.flats (T.kids.take j) ++ (K.flat ++ post') := by rw [hp]; simp
        have hlen : pre.length + T.flat.length ≤ t.length := by
          have := congrArg List.length h
          rw [toP_len, List.length_append, List.length_append] at this
          omega
        unfold spec_l2From.l0
        have e1 : wrap64 (((pre.length + (Tree.flats (T.kids.take (j + 1))).length : Nat) : Int) - 1) = ((pre.length + (Tree.flats (T.kids.take j)).length + K.flat.length - 1 : Nat) : Int) := by unfold wrap64; omega
        have e2 : wrap64 (((j + 1 : Nat) : Int) - 1) = (j : Int) := by unfold wrap64; have := Tree.flats_ge T.kids; omega
        rw [if_pos (by omega), e1, e2, ih K (by omega) hKg (pre ++ Tree.flats (T.kids.take j)) post' hp1 _ (by rw [List.length_append]; omega) k (by omega), Option.bind_some, List.length_append]
        exact ihj (by omega) (K.flat ++ post') hp2 k (by omega)
    have hall := loop T.kids.length (Nat.le_refl _) ([(T.op, T.n)] ++ post) (by rw [List.take_length, h, Tree.flat_eq]; simp) k (by rw [List.take_length]; omega)
    rw [List.take_length] at hall
    rw [show (i : Int) = ((pre.length + (Tree.flats T.kids).length : Nat) : Int) by omega]
    exact hall

/-- The roots of trees that stand one behind the other from a place on. -/
def roots : Nat → List Tree.Tr → List Int
  | _, [] => []
  | b, k :: ks => (((b + k.flat.length : Nat) : Int) - 1) :: roots (b + k.flat.length) ks
theorem roots_len (ks : List Tree.Tr) : ∀ b, (roots b ks).length = ks.length := by
  induction ks with
  | nil => intro b; rfl
  | cons x t ih => intro b; simp [roots, ih]
theorem roots_get (ks : List Tree.Tr) : ∀ (b j : Nat), j < ks.length → (roots b ks).getD j 0 = ((b + (Tree.flats (ks.take (j + 1))).length : Nat) : Int) - 1 := by
  induction ks with
  | nil => intro b j h; exact absurd h (Nat.not_lt_zero _)
  | cons x t ih =>
    intro b j h
    cases j with
    | zero => simp [roots, Tree.flats]
    | succ j =>
      have := ih (b + x.flat.length) j (by simpa using h)
      simp only [roots, List.getD_cons_succ, List.take_succ_cons, Tree.flats, List.length_append]
      rw [this]
      congr 2
      omega
theorem roots_drop (ks : List Tree.Tr) (b j : Nat) {K : Tree.Tr} (h : ks[j]? = some K) : roots (b + (Tree.flats (ks.take j)).length) (ks.drop j) = (((b + (Tree.flats (ks.take (j + 1))).length : Nat) : Int) - 1) :: roots (b + (Tree.flats (ks.take (j + 1))).length) (ks.drop (j + 1)) := by
  obtain ⟨hi, e⟩ := List.getElem?_eq_some_iff.1 h
  rw [List.drop_eq_getElem_cons hi, e]
  have := Tree.flats_take_succ ks j h
  rw [this, ← Nat.add_assoc]
  rfl
/-- A kid's nodes among all. -/
theorem kid_at (l pre post : List (Int × Int)) (T : Tree.Tr) (h : l = pre ++ T.flat ++ post) (j : Nat) (K : Tree.Tr) (hK : T.kids[j]? = some K) : l = (pre ++ Tree.flats (T.kids.take j)) ++ K.flat ++ (Tree.flats (T.kids.drop (j + 1)) ++ [(T.op, T.n)] ++ post) := by
  obtain ⟨hi, e⟩ := List.getElem?_eq_some_iff.1 hK
  have h1 : T.kids = T.kids.take j ++ (K :: T.kids.drop (j + 1)) := by rw [← e, ← List.drop_eq_getElem_cons hi, List.take_append_drop]
  rw [h, Tree.flat_eq]
  conv => lhs; rw [h1, Tree.flats_append]
  simp [Tree.flats]
theorem parts_f (t : List S87) (hn : t.length ≤ 1048576) (T : Tree.Tr) (hg : Tree.Good T) (pre post : List (Int × Int)) (h : toP t = pre ++ T.flat ++ post) (i : Nat) (hi : i + 1 = pre.length + T.flat.length) (k : Nat) (hk : 2 * T.flat.length + 3 ≤ k) :
    spec_l2Parts.f k t (i : Int) = some (roots pre.length T.kids) := by
  obtain ⟨hil, ho, -⟩ := rd_flat t pre post T h i hi
  have hf : T.flat.length = (Tree.flats T.kids).length + 1 := by rw [Tree.flat_eq]; simp
  have hlen : pre.length + T.flat.length ≤ t.length := by
    have := congrArg List.length h
    rw [toP_len, List.length_append, List.length_append] at this
    omega
  have hge := Tree.flats_ge T.kids
  unfold spec_l2Parts.f
  rw [if_pos (by omega), if_pos (by omega), ho, arity_good k (by omega) hg, Option.bind_some]
  have loop : ∀ (j : Nat), j ≤ T.kids.length → ∀ (k : Nat), 2 * (Tree.flats (T.kids.take j)).length + 2 ≤ k →
      spec_l2Parts.l0 k t (roots (pre.length + (Tree.flats (T.kids.take j)).length) (T.kids.drop j)) (((pre.length + (Tree.flats (T.kids.take j)).length : Nat) : Int) - 1) (j : Int) = some (roots pre.length T.kids) := by
    intro j
    induction j with
    | zero =>
      intro _ k hk
      obtain ⟨k, rfl⟩ : ∃ m, k = m + 1 := ⟨k - 1, by omega⟩
      unfold spec_l2Parts.l0
      rw [if_neg (by omega)]
      simp [Tree.flats]
    | succ j ihj =>
      intro hj k hk
      obtain ⟨k, rfl⟩ : ∃ m, k = m + 1 := ⟨k - 1, by omega⟩
      have hj' : j < T.kids.length := by omega
      have hK : T.kids[j]? = some T.kids[j] := List.getElem?_eq_getElem hj'
      have hKg : Tree.Good T.kids[j] := hg.kids _ (List.getElem_mem hj')
      generalize T.kids[j] = K at hK hKg
      have hK1 := Tree.flat_pos K
      have hsucc := Tree.flats_take_succ T.kids j hK
      have hle := Tree.flats_take_le T.kids (j + 1)
      have hat := kid_at _ _ _ T h j K hK
      have e1 : (((pre.length + (Tree.flats (T.kids.take (j + 1))).length : Nat) : Int) - 1) = ((pre.length + (Tree.flats (T.kids.take j)).length + K.flat.length - 1 : Nat) : Int) := by omega
      have hfrom := from_f t hn K.flat.length K (Nat.le_refl _) hKg _ _ hat (pre.length + (Tree.flats (T.kids.take j)).length + K.flat.length - 1) (by rw [List.length_append]; omega) k (by omega)
      rw [List.length_append] at hfrom
      have e2 : wrap64 (((pre.length + (Tree.flats (T.kids.take j)).length : Nat) : Int) - 1) = ((pre.length + (Tree.flats (T.kids.take j)).length : Nat) : Int) - 1 := by unfold wrap64; omega
      have e3 : wrap64 (((j + 1 : Nat) : Int) - 1) = (j : Int) := by unfold wrap64; omega
      have hrl := roots_len (T.kids.drop (j + 1)) (pre.length + (Tree.flats (T.kids.take (j + 1))).length)
      rw [List.length_drop] at hrl
      have hd := roots_drop T.kids pre.length j hK
      unfold spec_l2Parts.l0
      rw [if_pos (by omega), Option.bind_some, if_pos (by rw [hrl]; simp; omega), e1, hfrom, Option.bind_some, e2, e3]
      have := ihj (by omega) k (by omega)
      rw [hd, e1] at this
      exact this
  have hall := loop T.kids.length (Nat.le_refl _) k (by rw [List.take_length]; omega)
  rw [List.take_length, List.drop_length] at hall
  have e : wrap64 ((i : Int) - 1) = ((pre.length + (Tree.flats T.kids).length : Nat) : Int) - 1 := by unfold wrap64; omega
  rw [e]
  exact hall

theorem put_all : ∀ a b c d : Bool, ∀ n : Fin 4, spec_l1Put.f 7 (notedTo [a, b, c, d] 4) ((n.val : Nat) : Int) = some (notedTo ([a, b, c, d].set n.val true) 4) := by decide +kernel
theorem put_f (fs : List Bool) (h : fs.length = 4) (v : Int) (h0 : 0 ≤ v) (h4 : v < 4) (k : Nat) (hk : 7 ≤ k) : spec_l1Put.f k (notedTo fs 4) v = some (notedTo (fs.set v.toNat true) 4) := by
  match fs, h with
  | [a, b, c, d], _ =>
    have := put_all a b c d ⟨v.toNat, by omega⟩
    simp only at this
    rw [Int.toNat_of_nonneg h0] at this
    exact at_rounds (spec_l1Put.mono _ _) hk this
theorem one_all : ∀ n : Fin 4, [((n.val : Nat) : Int)] = notedTo (Tree.note (List.replicate 4 false) [((n.val : Nat) : Int)]) 4 := by decide +kernel
theorem notedTo_mem (gs : List Bool) (n i : Nat) (hi : i < n) : (notedTo gs n).contains (i : Int) = gs.getD i false := by
  rw [Bool.eq_iff_iff, List.contains_iff_mem]
  unfold notedTo
  rw [List.mem_map]
  constructor
  · rintro ⟨j, hj, e⟩
    have : j = i := by omega
    subst this
    exact (List.mem_filter.1 hj).2
  · intro h
    exact ⟨i, List.mem_filter.2 ⟨List.mem_range.2 hi, h⟩, rfl⟩
theorem notedTo_range (gs : List Bool) (n : Nat) : ∀ v ∈ notedTo gs n, 0 ≤ v ∧ v < (n : Int) := by
  intro v hv
  unfold notedTo at hv
  obtain ⟨j, hj, rfl⟩ := List.mem_map.1 hv
  have := List.mem_range.1 (List.mem_filter.1 hj).1
  omega
/-- Notes of notes are the notes. -/
theorem note_twice (fs : List Bool) (h : fs.length = 4) (vs : List Int) (hv : ∀ v ∈ vs, 0 ≤ v ∧ v < 4) : Tree.note fs (notedTo (Tree.note (List.replicate 4 false) vs) 4) = Tree.note fs vs := by
  have hl1 := Tree.note_len (notedTo (Tree.note (List.replicate 4 false) vs) 4) fs
  have hl2 := Tree.note_len vs fs
  apply List.ext_getElem (by omega)
  intro i h1 h2
  have g1 := Tree.note_get (notedTo (Tree.note (List.replicate 4 false) vs) 4) fs i (by omega) (fun v hv => (notedTo_range _ _ v hv).1)
  have g2 := Tree.note_get vs fs i (by omega) (fun v h => (hv v h).1)
  rw [notedTo_mem _ _ _ (by omega), Tree.note_get vs _ i (by simp; omega) (fun v h => (hv v h).1)] at g1
  rw [List.getD_eq_getElem?_getD, List.getElem?_eq_getElem h1] at g1
  rw [List.getD_eq_getElem?_getD, List.getElem?_eq_getElem h2] at g2
  have e : (List.replicate 4 false).getD i false = false := by
    rw [List.getD_eq_getElem?_getD, List.getElem?_replicate]
    split <;> rfl
  rw [e, Bool.false_or, ← g2] at g1
  simpa using g1
/-- The answer of VarsIn and SureVars. -/
def setOf (vs : List Int) : List Int := notedTo (Tree.note (List.replicate 4 false) vs) 4

/-- The laws VarsIn and SureVars once the reference says what the program says. -/
theorem lawTail (l : List S90) (p : List Int × Bool) (hp : p.1.length ≤ 100) (hs : ∀ k, 60 * l.length + 20 ≤ k → spec_SureVars.f k (l.map cvN) = some p) (hi : impl_SureVars.f (l.map cvN) = some p) (hl2 : l.length ≤ 1048576) : laws_FnExactSureVars.f (60 * l.length + 200) l = some true := by
  have hm : (l.map cvN).length = l.length := List.length_map _
  have t0 := toN_f l hl2 (60 * l.length + 200) (by omega)
  have t1 := toN_f l hl2 (60 * l.length + 199) (by omega)
  have t2 := toN_f l hl2 (60 * l.length + 198) (by omega)
  have h1 := hs (60 * l.length + 200) (by omega)
  have q0 := laws_eqIntS_f p.1 (by omega) (60 * l.length + 200) (by omega)
  have q1 := laws_eqIntS_f p.1 (by omega) (60 * l.length + 199) (by omega)
  have q2 := laws_eqIntS_f p.1 (by omega) (60 * l.length + 198) (by omega)
  have q3 := eqN_f (l.map cvN) (by omega) (60 * l.length + 199) (by omega)
  have m1 := markN_f (l.map cvN) (by omega) (60 * l.length + 199) (by omega)
  have m2 := laws_markIntS_f p.1 (by omega) (60 * l.length + 198) (by omega)
  have d1 := laws_heldIntS_f p.1.length (by omega) (60 * l.length + 198) (by omega)
  have d2 := laws_heldIntS_f p.1.length (by omega) (60 * l.length + 197) (by omega)
  unfold laws_FnExactSureVars.f
  rw [szN_f l 1048576 (by omega) (by omega) (by omega), Option.bind_some, if_neg (by omega)]
  simp only [t0, h1, hi, q0, Option.bind_some, if_true, bne_self_eq_false]
  simp only [laws_FnExactSureVars.j0, t1, q3, m1, q1, Option.bind_some, if_true, Bool.false_eq_true, if_false, bne_self_eq_false]
  rw [if_neg (by omega)]
  simp only [laws_FnExactSureVars.j1, m2, d1, t2, hi, q2, Option.bind_some, if_true, Bool.false_eq_true, if_false, bne_self_eq_false]
  rw [if_neg (by omega)]
  simp only [laws_FnExactSureVars.j2, d2, Option.bind_some, if_true, Bool.false_eq_true, if_false]
  rw [if_neg (by omega)]

theorem sure_inner (t : List S87) (x1 : Int) (parts : List Int) (len j : Int) (R : List Int) (L : List Int) (hL : ∀ v ∈ L, 0 ≤ v ∧ v < 4) (hlen : L.length ≤ 4) (K0 : Nat) (d : Nat) : ∀ (k m : Nat) (fs : List Bool), m + d = L.length → fs.length = 4 →
    (∀ k', K0 ≤ k' → spec_l2Sure.l0 k' t x1 (notedTo (Tree.note fs (L.drop m)) 4) parts len (wrap64 (j + 1)) = some R) → K0 + d + 8 ≤ k →
    spec_l2Sure.l1 k t x1 (notedTo fs 4) parts len j L (L.length : Int) (m : Int) = some R := by
  induction d with
  | zero =>
    intro k m fs hm hf hnext hk
    obtain ⟨k, rfl⟩ : ∃ j, k = j + 1 := ⟨k - 1, by omega⟩
    have := hnext k (by omega)
    rw [List.drop_of_length_le (by omega)] at this
    unfold spec_l2Sure.l1
    rw [if_neg (by omega)]
    exact this
  | succ d ih =>
    intro k m fs hm hf hnext hk
    obtain ⟨k, rfl⟩ : ∃ j, k = j + 1 := ⟨k - 1, by omega⟩
    have hml : m < L.length := by omega
    have hv := hL _ (List.getElem_mem hml)
    have hrd : rd L (m : Int) = L[m] := by rw [rd_nat, List.getD_eq_getElem?_getD, List.getElem?_eq_getElem hml]; rfl
    unfold spec_l2Sure.l1
    rw [if_pos (by omega), if_pos (by omega), if_pos (by omega), hrd, put_f fs hf _ hv.1 hv.2 k (by omega), Option.bind_some, wn64s m (by omega)]
    refine ih k (m + 1) _ (by omega) (by rw [List.length_set]; exact hf) (fun k' hk' => ?_) (by omega)
    have := hnext k' hk'
    rw [List.drop_eq_getElem_cons hml] at this
    exact this
theorem sure_f (t : List S87) (hn : t.length ≤ 1048576) : ∀ (n : Nat) (T : Tree.Tr), T.flat.length ≤ n → Tree.Good T → ∀ (pre post : List (Int × Int)), toP t = pre ++ T.flat ++ post → ∀ (i : Nat), i + 1 = pre.length + T.flat.length → ∀ (k : Nat), 60 * T.flat.length + 10 ≤ k →
    spec_l2Sure.f k t (i : Int) = some (setOf (T.vs true)) := by
  intro n
  induction n with
  | zero => intro T h; have := Tree.flat_pos T; omega
  | succ n ih =>
    intro T hsz hg pre post h i hi k hk
    obtain ⟨hil, ho, hv⟩ := rd_flat t pre post T h i hi
    obtain ⟨k, rfl⟩ : ∃ m, k = m + 1 := ⟨k - 1, by omega⟩
    have hf : T.flat.length = (Tree.flats T.kids).length + 1 := by rw [Tree.flat_eq]; simp
    have hrange := Tree.arity_range T.op
    have har := hg.arity
    have hl3 : T.kids.length ≤ 3 := by omega
    have hvr := Tree.vs_range true T.flat.length T (Nat.le_refl _) hg
    unfold spec_l2Sure.f
    rw [if_pos (by omega), if_pos (by omega), ho, hv]
    by_cases h2 : T.op = 2
    · have hvs : T.vs true = [T.n] := by rw [Tree.vs_eq, if_pos h2]
      rw [hvs] at hvr ⊢
      have h04 := hvr T.n (List.mem_singleton.2 rfl)
      have := one_all ⟨T.n.toNat, by omega⟩
      simp only at this
      rw [Int.toNat_of_nonneg h04.1] at this
      rw [if_pos h2]
      exact congrArg some this
    · have hvs : T.vs true = (T.eff true).flatMap fun K => K.vs true := by rw [Tree.vs_eq, if_neg h2]
      rw [if_neg h2, parts_f t hn T hg pre post h i hi k (by omega), Option.bind_some, roots_len, hvs]
      have hfsl : ∀ j, (Tree.note (List.replicate 4 false) ((T.kids.take j).flatMap fun K => K.vs true)).length = 4 := fun j => by rw [Tree.note_len]; simp
      -- one kid
      have hstep : ∀ (R : List Int) (j : Nat), j < T.kids.length → (T.op = 11 → j = 0) → ∀ K0, 60 * T.flat.length - 40 ≤ K0 → (∀ k', K0 ≤ k' → spec_l2Sure.l0 k' t (i : Int) (setOf ((T.kids.take (j + 1)).flatMap fun K => K.vs true)) (roots pre.length T.kids) (T.kids.length : Int) ((j + 1 : Nat) : Int) = some R) →
          ∀ k', K0 + 14 ≤ k' → spec_l2Sure.l0 k' t (i : Int) (setOf ((T.kids.take j).flatMap fun K => K.vs true)) (roots pre.length T.kids) (T.kids.length : Int) (j : Int) = some R := by
        intro R j hj h11 K0 hK0 hnext k' hk'
        obtain ⟨k', rfl⟩ : ∃ m, k' = m + 2 := ⟨k' - 2, by omega⟩
        have hK : T.kids[j]? = some T.kids[j] := List.getElem?_eq_getElem hj
        have hKs := Tree.flats_len_mem (List.getElem_mem hj)
        have hKg := hg.kids _ (List.getElem_mem hj)
        have hat := kid_at _ _ _ T h j _ hK
        have hsucc := Tree.flats_take_succ T.kids j hK
        have htake : (T.kids.take (j + 1)).flatMap (fun K => K.vs true) = (T.kids.take j).flatMap (fun K => K.vs true) ++ T.kids[j].vs true := by
          rw [List.take_succ_eq_append_getElem hj, List.flatMap_append]; simp
        rw [htake] at hnext
        have hKv := Tree.vs_range true T.kids[j].flat.length T.kids[j] (Nat.le_refl _) hKg
        have hK1 := Tree.flat_pos T.kids[j]
        have hrec := ih T.kids[j] (by omega) hKg _ _ hat (pre.length + (Tree.flats (T.kids.take (j + 1))).length - 1) (by rw [List.length_append]; omega) k' (by omega)
        have hroot : rd (roots pre.length T.kids) (j : Int) = ((pre.length + (Tree.flats (T.kids.take (j + 1))).length - 1 : Nat) : Int) := by
          rw [rd_nat, roots_get T.kids pre.length j hj]
          omega
        generalize T.kids[j] = K at *
        have hj1 : spec_l2Sure.j1 (k' + 1) t (i : Int) (setOf ((T.kids.take j).flatMap fun K => K.vs true)) (rd (roots pre.length T.kids) (j : Int)) (roots pre.length T.kids) (T.kids.length : Int) (j : Int) false = some R := by
          unfold spec_l2Sure.j1
          rw [if_neg (by simp), hroot, hrec, Option.bind_some]
          refine sure_inner t (i : Int) (roots pre.length T.kids) (T.kids.length : Int) (j : Int) R (setOf (K.vs true)) (fun v hv => notedTo_range _ _ v hv) (notedTo_len _ 4) K0 (setOf (K.vs true)).length k' 0 (Tree.note (List.replicate 4 false) ((T.kids.take j).flatMap fun K => K.vs true)) (by omega) (hfsl j) (fun k'' hk'' => ?_) (by have : (setOf (K.vs true)).length ≤ 4 := notedTo_len _ 4; omega)
          rw [List.drop_zero, wn64s j (by omega)]
          have hnt : Tree.note (Tree.note (List.replicate 4 false) ((T.kids.take j).flatMap fun K => K.vs true)) (setOf (K.vs true)) = Tree.note (List.replicate 4 false) ((T.kids.take j).flatMap (fun K => K.vs true) ++ K.vs true) := by
            unfold setOf
            rw [note_twice _ (hfsl j) _ hKv, Tree.note_append]
          rw [hnt]
          exact hnext k'' hk''
        unfold spec_l2Sure.l0
        rw [if_pos (by omega), if_pos (by omega), if_pos (by rw [roots_len]; omega), if_pos (by omega), if_pos (by omega), ho]
        by_cases e : T.op = 11
        · have e0 : j = 0 := h11 e
          rw [if_pos e]
          have : decide ((j : Int) > 0) = false := decide_eq_false (by omega)
          rw [this]
          exact hj1
        · rw [if_neg e]
          exact hj1
      by_cases h11 : T.op = 11
      · have hl : T.kids.length = 3 := by rw [h11] at har; have : Tree.arity 11 = 3 := rfl; omega
        have heff : T.eff true = T.kids.take 1 := by unfold Tree.Tr.eff; rw [if_pos ⟨h11, rfl⟩]
        rw [heff]
        have h0 := hstep (setOf ((T.kids.take 1).flatMap fun K => K.vs true)) 0 (by omega) (fun _ => rfl) (60 * T.flat.length - 40) (Nat.le_refl _) (fun k' hk' => by
          obtain ⟨k', rfl⟩ : ∃ m, k' = m + 2 := ⟨k' - 2, by have := Tree.flat_pos T; omega⟩
          unfold spec_l2Sure.l0
          rw [if_pos (by omega), if_pos (by omega), if_pos (by rw [roots_len]; omega), if_pos (by omega), if_pos (by omega), ho, if_pos h11]
          have : decide (((0 + 1 : Nat) : Int) > 0) = true := decide_eq_true (by omega)
          rw [this]
          unfold spec_l2Sure.j1
          rw [if_pos rfl]) k (by omega)
        exact h0
      · have heff : T.eff true = T.kids := by unfold Tree.Tr.eff; rw [if_neg (by simp [h11])]
        rw [heff]
        have hall : ∀ (d j : Nat), j + d = T.kids.length → ∀ k', 60 * T.flat.length - 40 + 14 * d + 1 ≤ k' → spec_l2Sure.l0 k' t (i : Int) (setOf ((T.kids.take j).flatMap fun K => K.vs true)) (roots pre.length T.kids) (T.kids.length : Int) (j : Int) = some (setOf (T.kids.flatMap fun K => K.vs true)) := by
          intro d
          induction d with
          | zero =>
            intro j hj k' hk'
            obtain ⟨k', rfl⟩ : ∃ m, k' = m + 1 := ⟨k' - 1, by omega⟩
            unfold spec_l2Sure.l0
            rw [if_neg (by omega), List.take_of_length_le (by omega)]
          | succ d ihd =>
            intro j hj k' hk'
            exact hstep _ j (by omega) (fun e => absurd e h11) (60 * T.flat.length - 40 + 14 * d + 1) (by omega) (fun k'' hk'' => ihd (j + 1) (by omega) k'' hk'') k' (by omega)
        have := hall T.kids.length 0 (by omega) k (by omega)
        exact this
theorem sure_same (t : List S87) (hn : t.length ≤ 1048576) (k : Nat) (hk : 60 * t.length + 20 ≤ k) : spec_SureVars.f k t = impl_SureVars.f t := by
  unfold spec_SureVars.f impl_SureVars.f
  rw [specGood_f t hn k (by omega), Option.bind_some]
  cases hT : Tree.treeOf (toP t) with
  | none => rfl
  | some T =>
    obtain ⟨hg, hfl, hl⟩ := Tree.treeOf_flat hT
    have h1 := (Tree.treeOf_ok (by rw [hT]; rfl)).1
    rw [toP_len] at h1
    have hlen : T.flat.length = t.length := by rw [hfl, toP_len]
    have e : wrap64 ((t.length : Int) - 1) = ((t.length - 1 : Nat) : Int) := by unfold wrap64; omega
    have := sure_f t hn T.flat.length T (Nat.le_refl _) hg [] [] (by rw [hfl]; simp) (t.length - 1) (by rw [hlen]; simp; omega) k (by omega)
    show (if true = true then _ else _) = _
    rw [if_pos rfl, e, this]
    rfl
theorem FnExactSureVars : RdFnExactSureVars.Pure := by
  intro l hl _
  refine ⟨60 * l.length + 200, ?_⟩
  by_cases h : (1048576 : Int) - (l.length : Int) < 0
  · unfold laws_FnExactSureVars.f
    rw [szN_f l 1048576 (by omega) (by omega) hl, Option.bind_some]
    simp only [if_pos h]; rfl
  · have hm : (l.map cvN).length = l.length := List.length_map _
    have hsome : ∃ p, impl_SureVars.f (l.map cvN) = some p ∧ p.1.length ≤ 100 := by
      unfold impl_SureVars.f
      cases Tree.treeOf (toP (l.map cvN)) with
      | none => exact ⟨_, rfl, by simp⟩
      | some T => exact ⟨_, rfl, Nat.le_trans (notedTo_len _ 4) (by omega)⟩
    obtain ⟨p, hp, hpl⟩ := hsome
    exact lawTail l p hpl (fun k hk => by rw [sure_same (l.map cvN) (by omega) k (by omega)]; exact hp) hp (by omega)

end Go.Proofs.Ytlneknaiimmfmaa.Pure
