/- The program's PutAll and the reference's answer alike at every list of nodes and every list of lists of nodes; no condition. -/
import Derived.Test.YtlneknaiimmfmaaPFnExactPutAllx5
import Derived.Test.YtlneknaiimmfmaaRdFnExactPutAll
set_option linter.unusedVariables false
set_option linter.unusedSimpArgs false
namespace Go.Proofs.Ytlneknaiimmfmaa.Pure
open Go.RowKit Go.Proofs.Ytlneknaiimmfmaa.PFnExactPutAll Go.Proofs.YtlneknaiimmfmaaW.PrintWords Go.Proofs.YtlneknaiimmfmaaW.PrintLast Go.Proofs.YtlneknaiimmfmaaW.PrintMore

theorem wn64s (i : Nat) (h : i ≤ 140737488355328) : wrap64 ((i : Int) + 1) = ((i + 1 : Nat) : Int) := by unfold wrap64; omega
def cvN (x : S90) : S87 := ⟨x.f0, x.f1⟩
theorem rdN_nat (l : List S87) (i : Nat) : rd_T87 l (i : Int) = l.getD i z87 := by simp [rd_T87]
theorem szN_f (l : List S90) (m : Int) (hm0 : 0 ≤ m) (hm : m ≤ 1048576) (hl : l.length ≤ 9223372036854775807) : laws_szNodeS.f l m = some (if m - (l.length : Int) < 0 then -1 else m - (l.length : Int)) := by
  unfold laws_szNodeS.f
  have e : wrap64 (m - (l.length : Int)) = m - (l.length : Int) := by unfold wrap64; omega
  rw [e]
  split <;> rfl
theorem toN_run (x0 : List S90) (hn : x0.length ≤ 140737488351232) (d : Nat) : ∀ (k i : Nat) (x3 : List S87), i + d = x0.length → x3.length = x0.length → (∀ j, j < i → x3[j]? = (x0.map cvN)[j]?) → d < k →
    laws_toNodeS.l0 k x0 x3 (i : Int) = some (x0.map cvN) := by
  induction d with
  | zero =>
    intro k i x3 hi hl hj hk
    obtain ⟨k, rfl⟩ : ∃ m, k = m + 1 := ⟨k - 1, by omega⟩
    simp only [laws_toNodeS.l0]
    rw [if_neg (by omega)]
    congr 1
    apply List.ext_getElem?
    intro j
    by_cases h : j < i
    · exact hj j h
    · rw [List.getElem?_eq_none (by omega), List.getElem?_eq_none (by rw [List.length_map]; omega)]
  | succ d ih =>
    intro k i x3 hi hl hj hk
    obtain ⟨k, rfl⟩ : ∃ m, k = m + 1 := ⟨k - 1, by omega⟩
    simp only [laws_toNodeS.l0, laws_toNode.f, Option.bind_some]
    rw [if_pos (by omega), if_pos (by omega), if_pos (by omega), wn64s i (by omega)]
    refine ih k (i + 1) _ (by omega) (by simpa using hl) ?_ (by omega)
    intro j hji
    rw [Int.toNat_natCast, List.getElem?_set]
    by_cases h : i = j
    · subst h
      rw [if_pos rfl, if_pos (by omega), List.getElem?_map, List.getElem?_eq_getElem (by omega)]
      simp [rd_T90, cvN, List.getD_eq_getElem?_getD, List.getElem?_eq_getElem (show i < x0.length by omega)]
    · rw [if_neg h]
      exact hj j (by omega)
theorem toN_f (l : List S90) (hn : l.length ≤ 1048576) (k : Nat) (hk : l.length < k) : laws_toNodeS.f k l = some (l.map cvN) := by
  unfold laws_toNodeS.f
  rw [if_pos (by omega), if_pos (by omega)]
  exact toN_run l (by omega) l.length k 0 _ (by omega) (by simp) (fun j hj => by omega) hk
theorem eqN_run (x0 : List S87) (hn : x0.length ≤ 140737488351232) (d : Nat) : ∀ (k i : Nat), i + d = x0.length → d < k → laws_eqNodeS.l0 k x0 x0 (i : Int) = some true := by
  induction d with
  | zero =>
    intro k i hi hk
    obtain ⟨k, rfl⟩ : ∃ m, k = m + 1 := ⟨k - 1, by omega⟩
    simp only [laws_eqNodeS.l0]
    rw [if_neg (by omega)]
  | succ d ih =>
    intro k i hi hk
    obtain ⟨k, rfl⟩ : ∃ m, k = m + 1 := ⟨k - 1, by omega⟩
    simp only [laws_eqNodeS.l0, laws_eqNode.f]
    rw [if_pos (by omega), if_pos (by omega), if_pos (by omega), if_pos trivial, if_pos trivial, Option.bind_some, if_pos rfl, wn64s i (by omega)]
    exact ih k (i + 1) (by omega) (by omega)
theorem eqN_f (l : List S87) (hn : l.length ≤ 140737488351232) (k : Nat) (hk : l.length < k) : laws_eqNodeS.f k l l = some true := by
  unfold laws_eqNodeS.f
  rw [if_pos rfl]
  exact eqN_run l hn l.length k 0 (by omega) hk

theorem specArity_f (k : Nat) (hk : 0 < k) (op : Int) : spec_l1Arity.f k op = some (if 1 ≤ op ∧ op ≤ 11 then Tree.arity op else -1) := by
  obtain ⟨k, rfl⟩ : ∃ m, k = m + 1 := ⟨k - 1, by omega⟩
  unfold spec_l1Arity.f Tree.arity
  by_cases h1 : op = 1
  · subst h1; rfl
  · rw [if_neg h1]
    by_cases h2 : op = 2
    · subst h2; rfl
    · rw [if_neg (by omega : ¬ (op = 1 ∨ op = 2))]
      simp only [spec_l1Arity.j0]
      rw [if_neg (by simpa using h2)]
      by_cases h3 : op = 3
      · subst h3; rfl
      · rw [if_neg h3, if_neg h3]
        by_cases h4 : op = 11
        · subst h4; rfl
        · rw [if_neg h4, if_neg h4]
          unfold spec_l1In.f
          by_cases h5 : op ≥ 4
          · by_cases h6 : op ≤ 10
            · rw [if_pos h5, Option.bind_some, decide_eq_true h6, if_pos rfl, if_pos (by omega)]
            · rw [if_pos h5, Option.bind_some, decide_eq_false h6, if_neg (by simp), if_neg (by omega)]
          · rw [if_neg h5, Option.bind_some, if_neg (by simp), if_neg (by omega)]
/-- How many trees a list of nodes leaves. -/
def goodB (r : Option (List Tree.Tr × List Tree.Tr)) : Bool := match r with | some s => s.1.length == 1 | none => false
theorem specGood_run (t : List S87) (hn : t.length ≤ 1048576) (d : Nat) : ∀ (k i : Nat) (s : List Tree.Tr × List Tree.Tr), i + d = t.length → Tree.build (toP (t.take i)) ([], []) = some s → d + 1 < k →
    spec_GoodTerm.l0 k (s.1.length : Int) t (t.length : Int) (i : Int) = some (goodB (Tree.build (toP t) ([], []))) := by
  induction d with
  | zero =>
    intro k i s hi hs hk
    obtain ⟨k, rfl⟩ : ∃ m, k = m + 1 := ⟨k - 1, by omega⟩
    simp only [spec_GoodTerm.l0]
    have e : t.take i = t := List.take_of_length_le (by omega)
    rw [e] at hs
    rw [if_neg (by omega), hs]
    show some ((s.1.length : Int) == 1) = some (s.1.length == 1)
    congr 1
    rw [Bool.eq_iff_iff]; simp; omega
  | succ d ih =>
    intro k i s hi hs hk
    obtain ⟨k, rfl⟩ : ∃ m, k = m + 1 := ⟨k - 1, by omega⟩
    simp only [spec_GoodTerm.l0]
    rw [if_pos (by omega), if_pos (by omega), if_pos (by omega), specArity_f k (by omega), Option.bind_some, wn64s i (by omega), rdN_nat]
    have hlen := (Tree.build_len _ _ _ hs).1
    rw [toP_len, List.length_take] at hlen
    have hl2 : s.1.length ≤ t.length := by simp at hlen; omega
    have hsucc := build_succ t i (by omega) hs
    have hfail := build_fail t i (by omega) hs
    generalize t.getD i z87 = x at hsucc hfail ⊢
    obtain ⟨op, n⟩ := x
    simp only at hsucc hfail ⊢
    have hr := Tree.arity_range op
    have hbad : (Tree.numOK op n = true ∧ Tree.arity op ≤ (s.1.length : Int)) → False → True := fun _ _ => trivial
    by_cases hst : Tree.numOK op n = true ∧ Tree.arity op ≤ (s.1.length : Int)
    · have hstep : Tree.step s (op, n) = some (s.1.take (s.1.length - (Tree.arity op).toNat) ++ [.mk op n (s.1.drop (s.1.length - (Tree.arity op).toNat))], s.2 ++ [.mk op n (s.1.drop (s.1.length - (Tree.arity op).toNat))]) := if_pos hst
      rw [hstep] at hsucc
      have hgo := ih k (i + 1) _ (by omega) hsucc (by omega)
      have hlen' : (((s.1.take (s.1.length - (Tree.arity op).toNat) ++ [Tree.Tr.mk op n (s.1.drop (s.1.length - (Tree.arity op).toNat))]).length : Nat) : Int) = wrap64 ((s.1.length : Int) + wrap64 (1 - Tree.arity op)) := by
        rw [List.length_append, List.length_take, List.length_singleton]
        unfold wrap64
        omega
      simp only [hlen'] at hgo
      obtain ⟨hN, hA⟩ := hst
      unfold Tree.numOK at hN
      have hop : 1 ≤ op ∧ op ≤ 11 := by
        by_cases h1 : op = 1
        · omega
        · rw [if_neg h1] at hN
          by_cases h2 : op = 2
          · omega
          · rw [if_neg h2] at hN
            have := of_decide_eq_true hN
            omega
      rw [if_pos hop, if_neg (by omega), if_neg (by omega)]
      by_cases h2 : op = 2
      · subst h2
        rw [if_neg (by omega), if_pos rfl] at hN
        have hN := of_decide_eq_true hN
        rw [if_pos rfl, if_neg (by omega), if_neg (by omega), if_neg (by decide)]
        exact hgo
      · rw [if_neg h2]
        by_cases h1 : op = 1
        · subst h1
          rw [if_neg (by decide)]
          exact hgo
        · rw [if_neg h1, if_neg h2] at hN
          have hN := of_decide_eq_true hN
          have hpos : Tree.arity op > 0 := by
            unfold Tree.arity
            rw [if_neg (by omega)]
            split
            · omega
            · split <;> omega
          rw [if_pos hpos, if_pos hN.2.2]
          exact hgo
    · rw [hfail (if_neg hst)]
      show _ = some false
      by_cases hop : 1 ≤ op ∧ op ≤ 11
      · rw [if_pos hop, if_neg (by omega)]
        by_cases ha : (s.1.length : Int) < Tree.arity op
        · rw [if_pos ha]
        · rw [if_neg ha]
          have hN : ¬ Tree.numOK op n = true := fun h => hst ⟨h, by omega⟩
          unfold Tree.numOK at hN
          by_cases h2 : op = 2
          · subst h2
            rw [if_neg (by omega), if_pos rfl] at hN
            have hN : ¬ (0 ≤ n ∧ n < 4) := fun h => hN (decide_eq_true h)
            rw [if_pos rfl]
            by_cases hn0 : n < 0
            · rw [if_pos hn0]
            · rw [if_neg hn0, if_pos (by omega)]
          · rw [if_neg h2]
            by_cases h1 : op = 1
            · exact absurd (if_pos h1) hN
            · rw [if_neg h1, if_neg h2] at hN
              have hN : ¬ (1 ≤ op ∧ op ≤ 11 ∧ n = 0) := fun h => hN (decide_eq_true h)
              have hpos : Tree.arity op > 0 := by
                unfold Tree.arity
                rw [if_neg (by omega)]
                split
                · omega
                · split <;> omega
              rw [if_pos hpos, if_neg (by omega)]
      · rw [if_neg hop, if_pos (by omega)]
theorem treeOf_isSome (t : List (Int × Int)) : (Tree.treeOf t).isSome = (decide (1 ≤ t.length ∧ t.length ≤ 40) && goodB (Tree.build t ([], []))) := by
  unfold Tree.treeOf Tree.treesOf
  by_cases h : 1 ≤ t.length ∧ t.length ≤ 40
  · rw [if_pos h, decide_eq_true h, Bool.true_and]
    cases hb : Tree.build t ([], []) with
    | none => rfl
    | some s =>
      show (Option.bind (if s.1.length = 1 then some s.2 else none) List.getLast?).isSome = (s.1.length == 1)
      by_cases h1 : s.1.length = 1
      · have hl := (Tree.build_len _ _ _ hb).2
        rw [if_pos h1, Option.bind_some, h1]
        cases hs : s.2 with
        | nil => rw [hs] at hl; simp at hl; omega
        | cons a l => rw [List.getLast?_cons]; rfl
      · rw [if_neg h1]
        simp [h1]
  · rw [if_neg h, decide_eq_false h]; rfl
theorem specGood_f (t : List S87) (hn : t.length ≤ 1048576) (k : Nat) (hk : t.length + 1 < k) : spec_GoodTerm.f k t = some (Tree.treeOf (toP t)).isSome := by
  unfold spec_GoodTerm.f spec_l1In.f
  rw [treeOf_isSome, toP_len]
  by_cases h0 : 1 ≤ t.length
  · rw [if_pos (by omega), Option.bind_some]
    by_cases h1 : t.length ≤ 40
    · rw [decide_eq_true (by omega), if_pos rfl, decide_eq_true (⟨h0, h1⟩ : 1 ≤ t.length ∧ t.length ≤ 40), Bool.true_and]
      exact specGood_run t hn t.length k 0 ([], []) (by omega) rfl hk
    · rw [decide_eq_false (by omega), if_neg (by simp), decide_eq_false (by omega)]; rfl
  · rw [if_neg (by omega), Option.bind_some, if_neg (by simp), decide_eq_false (by omega)]; rfl

/-- What markNodeS writes: numbers from one on. -/
def mkN (m0 : Nat) (j : Nat) : S87 := ⟨((m0 + 2 * j : Nat) : Int), ((m0 + 2 * j + 1 : Nat) : Int)⟩
theorem markN_run (n : Nat) (hn : n ≤ 140737480000000) (m0 : Nat) (hm0 : m0 ≤ 300000000) (d : Nat) : ∀ (k i : Nat) (x : List S87), i + d = n → x.length = n → (∀ j, j < i → x[j]? = some (mkN m0 j)) → d < k →
    laws_markNodeS.l0 k x ((m0 + 2 * i : Nat) : Int) (i : Int) = some (((m0 + 2 * n : Nat) : Int), (List.range n).map (mkN m0)) := by
  induction d with
  | zero =>
    intro k i x hi hl hj hk
    obtain ⟨k, rfl⟩ : ∃ m, k = m + 1 := ⟨k - 1, by omega⟩
    simp only [laws_markNodeS.l0]
    rw [if_neg (by omega)]
    have e : i = n := by omega
    subst e
    congr 2
    apply List.ext_getElem?
    intro j
    by_cases h : j < i
    · rw [hj j h, List.getElem?_map, List.getElem?_range h]; rfl
    · rw [List.getElem?_eq_none (by omega), List.getElem?_eq_none (by simp; omega)]
  | succ d ih =>
    intro k i x hi hl hj hk
    obtain ⟨k, rfl⟩ : ∃ m, k = m + 1 := ⟨k - 1, by omega⟩
    simp only [laws_markNodeS.l0, Option.bind_some]
    have e1 : wrap64 (((m0 + 2 * i : Nat) : Int) + 1) = ((m0 + 2 * i + 1 : Nat) : Int) := by unfold wrap64; omega
    have e2 : wrap64 (((m0 + 2 * i + 1 : Nat) : Int) + 1) = ((m0 + 2 * (i + 1) : Nat) : Int) := by unfold wrap64; omega
    have e3 : (rd_T87 (x.set i ⟨((m0 + 2 * i : Nat) : Int), (rd_T87 x (i : Int)).f1⟩) (i : Int)).f0 = ((m0 + 2 * i : Nat) : Int) := by
      rw [rdN_nat, List.getD_eq_getElem?_getD, List.getElem?_set_self (by omega)]
      rfl
    rw [if_pos (by omega), if_pos (by omega), Int.toNat_natCast, e1, e2, wn64s i (by omega), e3]
    refine ih k (i + 1) _ (by omega) (by simpa using hl) ?_ (by omega)
    intro j hji
    rw [List.getElem?_set]
    by_cases h : i = j
    · subst h
      rw [if_pos rfl, if_pos (by simp; omega)]
      rfl
    · rw [if_neg h, List.getElem?_set_ne h]
      exact hj j (by omega)
theorem markN_f (x : List S87) (hn : x.length ≤ 140737480000000) (k : Nat) (hk : x.length < k) : laws_markNodeS.f k x 1 = some (((1 + 2 * x.length : Nat) : Int), (List.range x.length).map (mkN 1)) :=
  markN_run x.length hn 1 (by omega) x.length k 0 x (by omega) rfl (fun j hj => by omega) hk
theorem markN_g (x : List S87) (hn : x.length ≤ 140737480000000) (m0 : Nat) (hm0 : m0 ≤ 300000000) (k : Nat) (hk : x.length < k) : laws_markNodeS.f k x (m0 : Int) = some (((m0 + 2 * x.length : Nat) : Int), (List.range x.length).map (mkN m0)) :=
  markN_run x.length hn m0 hm0 x.length k 0 x (by omega) rfl (fun j hj => by omega) hk

theorem heldN_run (n : Nat) (hn : n ≤ 140737480000000) (m0 : Nat) (hm0 : m0 ≤ 300000000) (d : Nat) : ∀ (k i : Nat), i + d = n → d < k →
    laws_heldNodeS.l0 k ((List.range n).map (mkN m0)) ((m0 + 2 * i : Nat) : Int) (i : Int) = some ((m0 + 2 * n : Nat) : Int) := by
  induction d with
  | zero =>
    intro k i hi hk
    obtain ⟨k, rfl⟩ : ∃ m, k = m + 1 := ⟨k - 1, by omega⟩
    simp only [laws_heldNodeS.l0]
    rw [if_neg (by simp; omega)]
    congr 2
    omega
  | succ d ih =>
    intro k i hi hk
    obtain ⟨k, rfl⟩ : ∃ m, k = m + 1 := ⟨k - 1, by omega⟩
    simp only [laws_heldNodeS.l0]
    have hr : rd_T87 ((List.range n).map (mkN m0)) (i : Int) = mkN m0 i := by
      rw [rdN_nat, List.getD_eq_getElem?_getD, List.getElem?_map, List.getElem?_range (by omega)]
      rfl
    have e1 : wrap64 (((m0 + 2 * i : Nat) : Int) + 1) = ((m0 + 2 * i + 1 : Nat) : Int) := by unfold wrap64; omega
    have e2 : wrap64 (((m0 + 2 * i + 1 : Nat) : Int) + 1) = ((m0 + 2 * (i + 1) : Nat) : Int) := by unfold wrap64; omega
    rw [if_pos (by simp; omega), if_pos (by omega), hr, e1, e2]
    rw [if_pos (show (mkN m0 i).f0 = ((m0 + 2 * i : Nat) : Int) from rfl), if_pos (show (mkN m0 i).f1 = ((m0 + 2 * i + 1 : Nat) : Int) from rfl), wn64s i (by omega)]
    exact ih k (i + 1) (by omega) (by omega)
theorem heldN_f (n : Nat) (hn : n ≤ 140737480000000) (k : Nat) (hk : n < k) : laws_heldNodeS.f k ((List.range n).map (mkN 1)) 1 = some ((1 + 2 * n : Nat) : Int) :=
  heldN_run n hn 1 (by omega) n k 0 (by omega) hk

theorem szSS_run (x0 : List (List S90)) (hn : x0.length ≤ 1048576) (hin : ∀ x ∈ x0, x.length ≤ 9223372036854775807) (d : Nat) : ∀ (k i : Nat) (m : Int), i + d = x0.length → d < k → 0 ≤ m → m ≤ 1048576 →
    ∃ t, laws_szNodeSS.l0 k x0 m (i : Int) = some t ∧ (t < 0 ∨ (0 ≤ t ∧ ((x0.drop i).flatten.length : Int) + t = m)) := by
  induction d with
  | zero =>
    intro k i m hi hk h0 h1
    obtain ⟨k, rfl⟩ : ∃ j, k = j + 1 := ⟨k - 1, by omega⟩
    simp only [laws_szNodeSS.l0]
    rw [if_neg (by omega)]
    exact ⟨_, rfl, .inr ⟨h0, by rw [List.drop_of_length_le (by omega)]; simp⟩⟩
  | succ d ih =>
    intro k i m hi hk h0 h1
    obtain ⟨k, rfl⟩ : ∃ j, k = j + 1 := ⟨k - 1, by omega⟩
    have hil : i < x0.length := by omega
    have hx := hin _ (List.getElem_mem hil)
    have e : rd_L3 x0 (i : Int) = x0[i] := by unfold rd_L3; rw [Int.toNat_natCast, List.getD_eq_getElem?_getD, List.getElem?_eq_getElem hil]; rfl
    simp only [laws_szNodeSS.l0]
    rw [if_pos (by omega), if_pos (by omega), e, szN_f _ m h0 h1 hx, Option.bind_some]
    by_cases hneg : m - (x0[i].length : Int) < 0
    · rw [if_pos hneg, if_pos (by omega)]
      exact ⟨_, rfl, .inl (by omega)⟩
    · rw [if_neg hneg, if_neg (by omega), wn64s i (by omega)]
      obtain ⟨t, ht, hh⟩ := ih k (i + 1) (m - (x0[i].length : Int)) (by omega) (by omega) (by omega) (by omega)
      refine ⟨t, ht, hh.imp id (fun h => ⟨h.1, ?_⟩)⟩
      rw [List.drop_eq_getElem_cons hil, List.flatten_cons, List.length_append]
      have := h.2
      omega
theorem szSS_f (l : List (List S90)) (hl : l.length ≤ 9223372036854775807) (hin : ∀ x ∈ l, x.length ≤ 9223372036854775807) (m : Int) (h0 : 0 ≤ m) (h1 : m ≤ 1048576) (k : Nat) (hk : 1048576 < k) : ∃ t, laws_szNodeSS.f k l m = some t ∧ (t < 0 ∨ (l.length ≤ 1048576 ∧ l.flatten.length ≤ 1048576)) := by
  unfold laws_szNodeSS.f
  have e : wrap64 (m - (l.length : Int)) = m - (l.length : Int) := by unfold wrap64; omega
  rw [e]
  by_cases h : m - (l.length : Int) < 0
  · rw [if_pos h]; exact ⟨_, rfl, .inl (by omega)⟩
  · rw [if_neg h]
    obtain ⟨t, ht, hh⟩ := szSS_run l (by omega) hin l.length k 0 (m - (l.length : Int)) (by omega) (by omega) (by omega) (by omega)
    refine ⟨t, ht, hh.imp id (fun h => ⟨by omega, ?_⟩)⟩
    have := h.2
    rw [List.drop_zero] at this
    omega
theorem mem_flatten_len {α : Type} {l : List (List α)} {x : List α} (h : x ∈ l) : x.length ≤ l.flatten.length := by
  induction l with
  | nil => exact absurd h (by simp)
  | cons y t ih =>
    rw [List.flatten_cons, List.length_append]
    rcases List.mem_cons.1 h with e | e
    · subst e; omega
    · have := ih e; omega
theorem toSS_run (x0 : List (List S90)) (hn : x0.length ≤ 1048576) (hin : ∀ x ∈ x0, x.length ≤ 1048576) (d : Nat) : ∀ (k i : Nat) (x3 : List (List S87)), i + d = x0.length → x3.length = x0.length → (∀ j, j < i → x3[j]? = (x0.map fun x => x.map cvN)[j]?) → d + 1048577 < k →
    laws_toNodeSS.l0 k x0 x3 (i : Int) = some (x0.map fun x => x.map cvN) := by
  induction d with
  | zero =>
    intro k i x3 hi hl hj hk
    obtain ⟨k, rfl⟩ : ∃ m, k = m + 1 := ⟨k - 1, by omega⟩
    simp only [laws_toNodeSS.l0]
    rw [if_neg (by omega)]
    congr 1
    apply List.ext_getElem?
    intro j
    by_cases h : j < i
    · exact hj j h
    · rw [List.getElem?_eq_none (by omega), List.getElem?_eq_none (by rw [List.length_map]; omega)]
  | succ d ih =>
    intro k i x3 hi hl hj hk
    obtain ⟨k, rfl⟩ : ∃ m, k = m + 1 := ⟨k - 1, by omega⟩
    have hil : i < x0.length := by omega
    have e : rd_L3 x0 (i : Int) = x0[i] := by unfold rd_L3; rw [Int.toNat_natCast, List.getD_eq_getElem?_getD, List.getElem?_eq_getElem hil]; rfl
    have hx := hin _ (List.getElem_mem hil)
    simp only [laws_toNodeSS.l0]
    rw [if_pos (by omega), if_pos (by omega), e, toN_f _ hx k (by omega), Option.bind_some, if_pos (by omega), wn64s i (by omega)]
    refine ih k (i + 1) _ (by omega) (by simpa using hl) ?_ (by omega)
    intro j hji
    rw [Int.toNat_natCast, List.getElem?_set]
    by_cases h : i = j
    · subst h
      rw [if_pos rfl, if_pos (by omega), List.getElem?_map, List.getElem?_eq_getElem hil]
      rfl
    · rw [if_neg h]
      exact hj j (by omega)
theorem toSS_f (l : List (List S90)) (hn : l.length ≤ 1048576) (hin : ∀ x ∈ l, x.length ≤ 1048576) (k : Nat) (hk : 2097160 < k) : laws_toNodeSS.f k l = some (l.map fun x => x.map cvN) := by
  unfold laws_toNodeSS.f
  rw [if_pos (by omega), if_pos (by omega)]
  exact toSS_run l hn hin l.length k 0 _ (by omega) (by simp) (fun j hj => by omega) (by omega)
theorem eqSS_run (x0 : List (List S87)) (hn : x0.length ≤ 1048576) (hin : ∀ x ∈ x0, x.length ≤ 1048576) (d : Nat) : ∀ (k i : Nat), i + d = x0.length → d + 1048577 < k → laws_eqNodeSS.l0 k x0 x0 (i : Int) = some true := by
  induction d with
  | zero =>
    intro k i hi hk
    obtain ⟨k, rfl⟩ : ∃ m, k = m + 1 := ⟨k - 1, by omega⟩
    simp only [laws_eqNodeSS.l0]
    rw [if_neg (by omega)]
  | succ d ih =>
    intro k i hi hk
    obtain ⟨k, rfl⟩ : ∃ m, k = m + 1 := ⟨k - 1, by omega⟩
    have hil : i < x0.length := by omega
    have e : rd_L4 x0 (i : Int) = x0[i] := by unfold rd_L4; rw [Int.toNat_natCast, List.getD_eq_getElem?_getD, List.getElem?_eq_getElem hil]; rfl
    have hx := hin _ (List.getElem_mem hil)
    simp only [laws_eqNodeSS.l0]
    rw [if_pos (by omega), if_pos (by omega), if_pos (by omega), e, eqN_f _ (by omega) k (by omega), Option.bind_some, if_pos rfl, wn64s i (by omega)]
    exact ih k (i + 1) (by omega) (by omega)
theorem eqSS_f (l : List (List S87)) (hn : l.length ≤ 1048576) (hin : ∀ x ∈ l, x.length ≤ 1048576) (k : Nat) (hk : 2097160 < k) : laws_eqNodeSS.f k l l = some true := by
  unfold laws_eqNodeSS.f
  rw [if_pos rfl]
  exact eqSS_run l hn hin l.length k 0 (by omega) (by omega)
theorem flat_map_len {α β : Type} (f : α → β) (l : List (List α)) : (l.map fun x => x.map f).flatten.length = l.flatten.length := by
  induction l with
  | nil => rfl
  | cons x t ih => simp only [List.map_cons, List.flatten_cons, List.length_append, List.length_map, ih]

theorem made_f (l : List S87) (h : l.length ≤ 2097152) (k : Nat) (hk : 1048600 < k) (hk2 : l.length + 1 < k) : spec_l2Made.f k l = some (goodF l) := by
  unfold spec_l2Made.f goodF
  by_cases hs : l.length ≤ 1048576
  · rw [specGood_f l hs k hk2, Option.bind_some]
    split <;> rfl
  · have e1 : spec_GoodTerm.f k l = some false := by
      unfold spec_GoodTerm.f spec_l1In.f
      rw [if_pos (by omega), Option.bind_some, decide_eq_false (by omega), if_neg (by simp)]
    have e2 : (Tree.treeOf (toP l)).isSome = false := by
      rw [treeOf_isSome, toP_len, decide_eq_false (by omega)]; rfl
    rw [e1, e2]
    rfl
theorem put_run (t : List S87) (ls : List (List S87)) (ht : t.length ≤ 40) (h4 : ls.length = 4) (hany : anyBadB ls = false) (hn : ∀ i : Nat, i < t.length → (rd_T87 t (i : Int)).f0 = 2 → 0 ≤ (rd_T87 t (i : Int)).f1 ∧ (rd_T87 t (i : Int)).f1 < 4) (d : Nat) : ∀ (k i : Nat), i + d = t.length → d + 1100000 < k →
    spec_PutAll.l1 k ls (putF (t.take i) ls) t (t.length : Int) (i : Int) = some (goodF (putF t ls)) := by
  induction d with
  | zero =>
    intro k i hi hk
    obtain ⟨k, rfl⟩ : ∃ m, k = m + 1 := ⟨k - 1, by omega⟩
    have htk : t.take i = t := List.take_of_length_le (by omega)
    have hl := putF_len hany t
    simp only [spec_PutAll.l1]
    rw [if_neg (by omega), htk, made_f _ (by omega) k (by omega) (by omega), Option.bind_some]
  | succ d ih =>
    intro k i hi hk
    obtain ⟨k, rfl⟩ : ∃ m, k = m + 1 := ⟨k - 1, by omega⟩
    have hil : i < t.length := by omega
    have hl := putF_len hany (t.take i)
    have hl1 := putF_len hany (t.take (i + 1))
    have hts := putF_succ t ls i hil
    have hni := hn i hil
    have hgo := ih k (i + 1) (by omega) (by omega)
    rw [List.length_take] at hl hl1
    rw [hts] at hgo hl1
    simp only [spec_PutAll.l1]
    rw [if_pos (by omega), if_pos (by omega), if_pos (by omega), wn64s i (by omega)]
    generalize rd_T87 t (i : Int) = nd at hni hgo hl1 ⊢
    by_cases h2 : nd.f0 = 2
    · obtain ⟨p1, p2⟩ := hni h2
      rw [if_pos h2] at hgo hl1 ⊢
      rw [List.length_append] at hl1
      rw [if_pos p1, if_pos (by omega), show rd_L4 ls nd.f1 = ls.getD nd.f1.toNat [] from rfl, if_pos (by omega)]
      exact hgo
    · rw [if_neg h2] at hgo ⊢
      rw [if_pos (by omega)]
      exact hgo
theorem rows_run (t : List S87) (ls : List (List S87)) (hin : ∀ x ∈ ls, x.length ≤ 1048576) (h4 : ls.length = 4) (R : Option (List S87 × Bool)) (hR : anyBadB ls = false → ∀ k, 1200000 < k → spec_PutAll.l1 k ls [] t (t.length : Int) 0 = R) (d : Nat) : ∀ (k i : Nat), i + d = ls.length → d + 1300000 < k → (∀ j, j < i → (Tree.treeOf (toP (ls.getD j []))).isSome = true) →
    spec_PutAll.l0 k t ls ls (ls.length : Int) (i : Int) = if anyBadB ls = false then R else some ([], false) := by
  induction d with
  | zero =>
    intro k i hi hk hok
    obtain ⟨k, rfl⟩ : ∃ m, k = m + 1 := ⟨k - 1, by omega⟩
    have hany : anyBadB ls = false := by
      unfold anyBadB
      rw [List.any_eq_false]
      intro x hx
      obtain ⟨j, hj, rfl⟩ := List.getElem_of_mem hx
      have := hok j (by omega)
      rw [List.getD_eq_getElem?_getD, List.getElem?_eq_getElem hj] at this
      simp [show (Tree.treeOf (toP ls[j])).isSome = true from this]
    simp only [spec_PutAll.l0]
    rw [if_neg (by omega), if_pos hany]
    exact hR hany k (by omega)
  | succ d ih =>
    intro k i hi hk hok
    obtain ⟨k, rfl⟩ : ∃ m, k = m + 1 := ⟨k - 1, by omega⟩
    have hil : i < ls.length := by omega
    have hx := hin _ (List.getElem_mem hil)
    have e : rd_L4 ls (i : Int) = ls[i] := by unfold rd_L4; rw [Int.toNat_natCast, List.getD_eq_getElem?_getD, List.getElem?_eq_getElem hil]; rfl
    have hgd : ls.getD i [] = ls[i] := by rw [List.getD_eq_getElem?_getD, List.getElem?_eq_getElem hil]; rfl
    simp only [spec_PutAll.l0]
    rw [if_pos (by omega), if_pos (by omega), if_pos (by omega), e, specGood_f _ hx k (by omega), Option.bind_some]
    cases hg : (Tree.treeOf (toP ls[i])).isSome with
    | false =>
      have hany : anyBadB ls = true := by
        unfold anyBadB
        rw [List.any_eq_true]
        exact ⟨_, List.getElem_mem hil, by rw [hg]; rfl⟩
      rw [if_neg (by simp), if_neg (by rw [hany]; simp)]
    | true =>
      rw [if_pos rfl, wn64s i (by omega)]
      refine ih k (i + 1) (by omega) (by omega) (fun j hj => ?_)
      by_cases h : j = i
      · rw [h, hgd]; exact hg
      · exact hok j (by omega)
theorem put_same (t : List S87) (ls : List (List S87)) (htl : t.length ≤ 1048576) (hin : ∀ x ∈ ls, x.length ≤ 1048576) (hlen : ls.length ≤ 1048576) (k : Nat) (hk : 3000000 ≤ k) : spec_PutAll.f k t ls = impl_PutAll.f t ls := by
  obtain ⟨k, rfl⟩ : ∃ m, k = m + 1 := ⟨k - 1, by omega⟩
  unfold spec_PutAll.f impl_PutAll.f
  have hbad : spec_PutAll.j0 (k + 1) t ls true = some ([], false) := by simp [spec_PutAll.j0]
  rw [specGood_f t htl (k + 1) (by omega), Option.bind_some]
  by_cases h0 : (Tree.treeOf (toP t)).isSome = true
  · rw [if_pos h0]
    by_cases h2 : ls.length = 4
    · have hb : ((ls.length : Int) != 4) = false := by rw [bne_eq_false_iff_eq]; omega
      have hok := Tree.treeOf_ok h0
      rw [toP_len] at hok
      have hN : ∀ i : Nat, i < t.length → (rd_T87 t (i : Int)).f0 = 2 → 0 ≤ (rd_T87 t (i : Int)).f1 ∧ (rd_T87 t (i : Int)).f1 < 4 := by
        intro i hi h2
        have e : rd_T87 t (i : Int) = t[i] := by unfold rd_T87; rw [Int.toNat_natCast, List.getD_eq_getElem?_getD, List.getElem?_eq_getElem hi]; rfl
        have hm : ((rd_T87 t (i : Int)).f0, (rd_T87 t (i : Int)).f1) ∈ toP t := by rw [e]; exact List.mem_map.2 ⟨_, List.getElem_mem hi, rfl⟩
        have := hok.2.2 _ hm
        simp only [h2] at this
        unfold Tree.numOK at this
        rw [if_neg (by omega), if_pos rfl] at this
        exact of_decide_eq_true this
      have := rows_run t ls hin h2 (some (goodF (putF t ls))) (fun hany k hk => by
        have := put_run t ls hok.2.1 h2 hany hN t.length k 0 (by omega) (by have := hok.2.1; omega)
        rw [List.take_zero] at this
        exact this) ls.length k 0 (by omega) (by omega) (fun j hj => absurd hj (Nat.not_lt_zero _))
      rw [hb]
      simp only [spec_PutAll.j0, Bool.false_eq_true, if_false]
      refine this.trans ?_
      by_cases h3 : anyBadB ls = false
      · rw [if_pos h3, if_pos ⟨⟨h0, h2⟩, h3⟩]
      · rw [if_neg h3, if_neg (fun h => h3 h.2)]
    · have hb : ((ls.length : Int) != 4) = true := by rw [bne_iff_ne]; omega
      rw [hb, hbad, if_neg (fun h => h2 h.1.2)]
  · rw [if_neg h0, hbad, if_neg (fun h => h0 h.1.1)]
theorem put_some (t : List S87) (ls : List (List S87)) : ∃ p, impl_PutAll.f t ls = some p ∧ p.1.length ≤ 40 * t.length := by
  unfold impl_PutAll.f
  split
  · rename_i h
    refine ⟨_, rfl, ?_⟩
    have := putF_len h.2 t
    unfold goodF
    split
    · exact this
    · simp
  · exact ⟨_, rfl, by simp⟩
theorem FnExactPutAll : RdFnExactPutAll.Pure := by
  intro l0 l1 hl0 _ hl hok
  refine ⟨100000000, ?_⟩
  unfold laws_FnExactPutAll.f
  rw [szN_f l0 1048576 (by omega) (by omega) hl0, Option.bind_some]
  by_cases hn0 : (1048576 : Int) - (l0.length : Int) < 0
  · rw [if_pos hn0, if_pos (by omega)]
  rw [if_neg hn0, if_neg hn0]
  obtain ⟨t, ht, hh⟩ := szSS_f l1 hl (fun x hx => (hok.2 x hx).1) (1048576 - (l0.length : Int)) (by omega) (by omega) 100000000 (by omega)
  rw [ht, Option.bind_some]
  by_cases h : t < 0
  · rw [if_pos h]
  · obtain ⟨h1, h2⟩ := hh.resolve_left h
    have hin : ∀ x ∈ l1, x.length ≤ 1048576 := fun x hx => Nat.le_trans (mem_flatten_len hx) h2
    have hto0 := toN_f l0 (by omega) 100000000 (by omega)
    have hto := toSS_f l1 h1 hin 100000000 (by omega)
    have hlen0 : (l0.map cvN).length = l0.length := List.length_map _
    have hlen : (l1.map fun x => x.map cvN).length = l1.length := List.length_map _
    have hfl := flat_map_len cvN l1
    rw [if_neg h, hto0, Option.bind_some, hto, Option.bind_some]
    have hin2 : ∀ x ∈ (l1.map fun x => x.map cvN), x.length ≤ 1048576 := fun x hx => Nat.le_trans (mem_flatten_len hx) (by omega)
    have hE0 := eqN_f (l0.map cvN) (by omega) 100000000 (by omega)
    have hE := eqSS_f (l1.map fun x => x.map cvN) (by omega) hin2 100000000 (by omega)
    have hs := put_same (l0.map cvN) (l1.map fun x => x.map cvN) (by omega) hin2 (by omega) 100000000 (by omega)
    obtain ⟨p, hp, hpl⟩ := put_some (l0.map cvN) (l1.map fun x => x.map cvN)
    rw [hp] at hs
    have q0 := eqN_f p.1 (by omega) 100000000 (by omega)
    have m1 := markN_f p.1 (by omega) 100000000 (by omega)
    have d1 := heldN_f p.1.length (by omega) 100000000 (by omega)
    generalize (l1.map fun x => x.map cvN) = L at *
    generalize l0.map cvN = L0 at *
    simp only [hs, hp, q0, hE0, hE, m1, d1, Option.bind_some]
    rw [if_pos (by refine ⟨⟨?_, ?_, ?_, ?_⟩, ?_, ?_, ?_, ?_, ?_⟩ <;> first | trivial | rfl | omega)]

end Go.Proofs.Ytlneknaiimmfmaa.Pure
