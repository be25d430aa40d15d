/- The program's ReplaceAt and the reference's answer alike at every two lists of nodes and every place; no condition. -/
import Derived.Test.YtlneknaiimmfmaaPFnExactReplaceAtx5
import Derived.Test.YtlneknaiimmfmaaRdFnExactReplaceAt
set_option linter.unusedVariables false
set_option linter.unusedSimpArgs false
namespace Go.Proofs.Ytlneknaiimmfmaa.Pure
open Go.RowKit Go.Proofs.Ytlneknaiimmfmaa.PFnExactReplaceAt Go.Proofs.YtlneknaiimmfmaaW.PrintWords Go.Proofs.YtlneknaiimmfmaaW.PrintLast Go.Proofs.YtlneknaiimmfmaaW.PrintMore

theorem wn64s (i : Nat) (h : i ≤ 140737488355328) : wrap64 ((i : Int) + 1) = ((i + 1 : Nat) : Int) := by unfold wrap64; omega
def cvN (x : S90) : S87 := ⟨x.f0, x.f1⟩
theorem rdN_nat (l : List S87) (i : Nat) : rd_T87 l (i : Int) = l.getD i z87 := by simp [rd_T87]
theorem szN_f (l : List S90) (m : Int) (hm0 : 0 ≤ m) (hm : m ≤ 1048576) (hl : l.length ≤ 9223372036854775807) : laws_szNodeS.f l m = some (if m - (l.length : Int) < 0 then -1 else m - (l.length : Int)) := by
  unfold laws_szNodeS.f
  have e : wrap64 (m - (l.length : Int)) = m - (l.length : Int) := by unfold wrap64; omega
  rw [e]
  split <;> rfl
theorem toN_run (x0 : List S90) (hn : x0.length ≤ 140737488351232) (d : Nat) : ∀ (k i : Nat) (x3 : List S87), i + d = x0.length → x3.length = x0.length → (∀ j, j < i → x3[j]? = (x0.map cvN)[j]?) → d < k →
    laws_toNodeS.l0 k x0 x3 (i : Int) = some (x0.map cvN) := by
  induction d with
  | zero =>
    intro k i x3 hi hl hj hk
    obtain ⟨k, rfl⟩ : ∃ m, k = m + 1 := ⟨k - 1, by omega⟩
    simp only [laws_toNodeS.l0]
    rw [if_neg (by omega)]
    congr 1
    apply List.ext_getElem?
    intro j
    by_cases h : j < i
    · exact hj j h
    · rw [List.getElem?_eq_none (by omega), List.getElem?_eq_none (by rw [List.length_map]; omega)]
  | succ d ih =>
    intro k i x3 hi hl hj hk
    obtain ⟨k, rfl⟩ : ∃ m, k = m + 1 := ⟨k - 1, by omega⟩
    simp only [laws_toNodeS.l0, laws_toNode.f, Option.bind_some]
    rw [if_pos (by omega), if_pos (by omega), if_pos (by omega), wn64s i (by omega)]
    refine ih k (i + 1) _ (by omega) (by simpa using hl) ?_ (by omega)
    intro j hji
    rw [Int.toNat_natCast, List.getElem?_set]
    by_cases h : i = j
    · subst h
      rw [if_pos rfl, if_pos (by omega), List.getElem?_map, List.getElem?_eq_getElem (by omega)]
      simp [rd_T90, cvN, List.getD_eq_getElem?_getD, List.getElem?_eq_getElem (show i < x0.length by omega)]
    · rw [if_neg h]
      exact hj j (by omega)
theorem toN_f (l : List S90) (hn : l.length ≤ 1048576) (k : Nat) (hk : l.length < k) : laws_toNodeS.f k l = some (l.map cvN) := by
  unfold laws_toNodeS.f
  rw [if_pos (by omega), if_pos (by omega)]
  exact toN_run l (by omega) l.length k 0 _ (by omega) (by simp) (fun j hj => by omega) hk
theorem eqN_run (x0 : List S87) (hn : x0.length ≤ 140737488351232) (d : Nat) : ∀ (k i : Nat), i + d = x0.length → d < k → laws_eqNodeS.l0 k x0 x0 (i : Int) = some true := by
  induction d with
  | zero =>
    intro k i hi hk
    obtain ⟨k, rfl⟩ : ∃ m, k = m + 1 := ⟨k - 1, by omega⟩
    simp only [laws_eqNodeS.l0]
    rw [if_neg (by omega)]
  | succ d ih =>
    intro k i hi hk
    obtain ⟨k, rfl⟩ : ∃ m, k = m + 1 := ⟨k - 1, by omega⟩
    simp only [laws_eqNodeS.l0, laws_eqNode.f]
    rw [if_pos (by omega), if_pos (by omega), if_pos (by omega), if_pos trivial, if_pos trivial, Option.bind_some, if_pos rfl, wn64s i (by omega)]
    exact ih k (i + 1) (by omega) (by omega)
theorem eqN_f (l : List S87) (hn : l.length ≤ 140737488351232) (k : Nat) (hk : l.length < k) : laws_eqNodeS.f k l l = some true := by
  unfold laws_eqNodeS.f
  rw [if_pos rfl]
  exact eqN_run l hn l.length k 0 (by omega) hk

theorem specArity_f (k : Nat) (hk : 0 < k) (op : Int) : spec_l1Arity.f k op = some (if 1 ≤ op ∧ op ≤ 11 then Tree.arity op else -1) := by
  obtain ⟨k, rfl⟩ : ∃ m, k = m + 1 := ⟨k - 1, by omega⟩
  unfold spec_l1Arity.f Tree.arity
  by_cases h1 : op = 1
  · subst h1; rfl
  · rw [if_neg h1]
    by_cases h2 : op = 2
    · subst h2; rfl
    · rw [if_neg (by omega : ¬ (op = 1 ∨ op = 2))]
      simp only [spec_l1Arity.j0]
      rw [if_neg (by simpa using h2)]
      by_cases h3 : op = 3
      · subst h3; rfl
      · rw [if_neg h3, if_neg h3]
        by_cases h4 : op = 11
        · subst h4; rfl
        · rw [if_neg h4, if_neg h4]
          unfold spec_l1In.f
          by_cases h5 : op ≥ 4
          · by_cases h6 : op ≤ 10
            · rw [if_pos h5, Option.bind_some, decide_eq_true h6, if_pos rfl, if_pos (by omega)]
            · rw [if_pos h5, Option.bind_some, decide_eq_false h6, if_neg (by simp), if_neg (by omega)]
          · rw [if_neg h5, Option.bind_some, if_neg (by simp), if_neg (by omega)]
/-- How many trees a list of nodes leaves. -/
def goodB (r : Option (List Tree.Tr × List Tree.Tr)) : Bool := match r with | some s => s.1.length == 1 | none => false
theorem specGood_run (t : List S87) (hn : t.length ≤ 1048576) (d : Nat) : ∀ (k i : Nat) (s : List Tree.Tr × List Tree.Tr), i + d = t.length → Tree.build (toP (t.take i)) ([], []) = some s → d + 1 < k →
    spec_GoodTerm.l0 k (s.1.length : Int) t (t.length : Int) (i : Int) = some (goodB (Tree.build (toP t) ([], []))) := by
  induction d with
  | zero =>
    intro k i s hi hs hk
    obtain ⟨k, rfl⟩ : ∃ m, k = m + 1 := ⟨k - 1, by omega⟩
    simp only [spec_GoodTerm.l0]
    have e : t.take i = t := List.take_of_length_le (by omega)
    rw [e] at hs
    rw [if_neg (by omega), hs]
    show some ((s.1.length : Int) == 1) = some (s.1.length == 1)
    congr 1
    rw [Bool.eq_iff_iff]; simp; omega
  | succ d ih =>
    intro k i s hi hs hk
    obtain ⟨k, rfl⟩ : ∃ m, k = m + 1 := ⟨k - 1, by omega⟩
    simp only [spec_GoodTerm.l0]
    rw [if_pos (by omega), if_pos (by omega), if_pos (by omega), specArity_f k (by omega), Option.bind_some, wn64s i (by omega), rdN_nat]
    have hlen := (Tree.build_len _ _ _ hs).1
    rw [toP_len, List.length_take] at hlen
    have hl2 : s.1.length ≤ t.length := by simp at hlen; omega
    have hsucc := build_succ t i (by omega) hs
    have hfail := build_fail t i (by omega) hs
    generalize t.getD i z87 = x at hsucc hfail ⊢
    obtain ⟨op, n⟩ := x
    simp only at hsucc hfail ⊢
    have hr := Tree.arity_range op
    have hbad : (Tree.numOK op n = true ∧ Tree.arity op ≤ (s.1.length : Int)) → False → True := fun _ _ => trivial
    by_cases hst : Tree.numOK op n = true ∧ Tree.arity op ≤ (s.1.length : Int)
    · have hstep : Tree.step s (op, n) = some (s.1.take (s.1.length - (Tree.arity op).toNat) ++ [.mk op n (s.1.drop (s.1.length - (Tree.arity op).toNat))], s.2 ++ [.mk op n (s.1.drop (s.1.length - (Tree.arity op).toNat))]) := if_pos hst
      rw [hstep] at hsucc
      have hgo := ih k (i + 1) _ (by omega) hsucc (by omega)
      have hlen' : (((s.1.take (s.1.length - (Tree.arity op).toNat) ++ [Tree.Tr.mk op n (s.1.drop (s.1.length - (Tree.arity op).toNat))]).length : Nat) : Int) = wrap64 ((s.1.length : Int) + wrap64 (1 - Tree.arity op)) := by
        rw [List.length_append, List.length_take, List.length_singleton]
        unfold wrap64
        omega
      simp only [hlen'] at hgo
      obtain ⟨hN, hA⟩ := hst
      unfold Tree.numOK at hN
      have hop : 1 ≤ op ∧ op ≤ 11 := by
        by_cases h1 : op = 1
        · omega
        · rw [if_neg h1] at hN
          by_cases h2 : op = 2
          · omega
          · rw [if_neg h2] at hN
            have := of_decide_eq_true hN
            omega
      rw [if_pos hop, if_neg (by omega), if_neg (by omega)]
      by_cases h2 : op = 2
      · subst h2
        rw [if_neg (by omega), if_pos rfl] at hN
        have hN := of_decide_eq_true hN
        rw [if_pos rfl, if_neg (by omega), if_neg (by omega), if_neg (by decide)]
        exact hgo
      · rw [if_neg h2]
        by_cases h1 : op = 1
        · subst h1
          rw [if_neg (by decide)]
          exact hgo
        · rw [if_neg h1, if_neg h2] at hN
          have hN := of_decide_eq_true hN
          have hpos : Tree.arity op > 0 := by
            unfold Tree.arity
            rw [if_neg (by omega)]
            split
            · omega
            · split <;> omega
          rw [if_pos hpos, if_pos hN.2.2]
          exact hgo
    · rw [hfail (if_neg hst)]
      show _ = some false
      by_cases hop : 1 ≤ op ∧ op ≤ 11
      · rw [if_pos hop, if_neg (by omega)]
        by_cases ha : (s.1.length : Int) < Tree.arity op
        · rw [if_pos ha]
        · rw [if_neg ha]
          have hN : ¬ Tree.numOK op n = true := fun h => hst ⟨h, by omega⟩
          unfold Tree.numOK at hN
          by_cases h2 : op = 2
          · subst h2
            rw [if_neg (by omega), if_pos rfl] at hN
            have hN : ¬ (0 ≤ n ∧ n < 4) := fun h => hN (decide_eq_true h)
            rw [if_pos rfl]
            by_cases hn0 : n < 0
            · rw [if_pos hn0]
            · rw [if_neg hn0, if_pos (by omega)]
          · rw [if_neg h2]
            by_cases h1 : op = 1
            · exact absurd (if_pos h1) hN
            · rw [if_neg h1, if_neg h2] at hN
              have hN : ¬ (1 ≤ op ∧ op ≤ 11 ∧ n = 0) := fun h => hN (decide_eq_true h)
              have hpos : Tree.arity op > 0 := by
                unfold Tree.arity
                rw [if_neg (by omega)]
                split
                · omega
                · split <;> omega
              rw [if_pos hpos, if_neg (by omega)]
      · rw [if_neg hop, if_pos (by omega)]
theorem treeOf_isSome (t : List (Int × Int)) : (Tree.treeOf t).isSome = (decide (1 ≤ t.length ∧ t.length ≤ 40) && goodB (Tree.build t ([], []))) := by
  unfold Tree.treeOf Tree.treesOf
  by_cases h : 1 ≤ t.length ∧ t.length ≤ 40
  · rw [if_pos h, decide_eq_true h, Bool.true_and]
    cases hb : Tree.build t ([], []) with
    | none => rfl
    | some s =>
      show (Option.bind (if s.1.length = 1 then some s.2 else none) List.getLast?).isSome = (s.1.length == 1)
      by_cases h1 : s.1.length = 1
      · have hl := (Tree.build_len _ _ _ hb).2
        rw [if_pos h1, Option.bind_some, h1]
        cases hs : s.2 with
        | nil => rw [hs] at hl; simp at hl; omega
        | cons a l => rw [List.getLast?_cons]; rfl
      · rw [if_neg h1]
        simp [h1]
  · rw [if_neg h, decide_eq_false h]; rfl
theorem specGood_f (t : List S87) (hn : t.length ≤ 1048576) (k : Nat) (hk : t.length + 1 < k) : spec_GoodTerm.f k t = some (Tree.treeOf (toP t)).isSome := by
  unfold spec_GoodTerm.f spec_l1In.f
  rw [treeOf_isSome, toP_len]
  by_cases h0 : 1 ≤ t.length
  · rw [if_pos (by omega), Option.bind_some]
    by_cases h1 : t.length ≤ 40
    · rw [decide_eq_true (by omega), if_pos rfl, decide_eq_true (⟨h0, h1⟩ : 1 ≤ t.length ∧ t.length ≤ 40), Bool.true_and]
      exact specGood_run t hn t.length k 0 ([], []) (by omega) rfl hk
    · rw [decide_eq_false (by omega), if_neg (by simp), decide_eq_false (by omega)]; rfl
  · rw [if_neg (by omega), Option.bind_some, if_neg (by simp), decide_eq_false (by omega)]; rfl

theorem toP_get (t : List S87) (i : Nat) (x : Int × Int) (h : (toP t)[i]? = some x) : i < t.length ∧ (rd_T87 t (i : Int)).f0 = x.1 ∧ (rd_T87 t (i : Int)).f1 = x.2 := by
  unfold toP at h
  rw [List.getElem?_map] at h
  cases hi : t[i]? with
  | none => rw [hi] at h; exact absurd h (by simp)
  | some y =>
    rw [hi] at h
    injection h with h
    obtain ⟨hl, e⟩ := List.getElem?_eq_some_iff.1 hi
    rw [rdN_nat, List.getD_eq_getElem?_getD, hi]
    subst h
    exact ⟨hl, rfl, rfl⟩
/-- The node at the end of a tree's nodes. -/
theorem rd_flat (t : List S87) (pre post : List (Int × Int)) (T : Tree.Tr) (h : toP t = pre ++ T.flat ++ post) (i : Nat) (hi : i + 1 = pre.length + T.flat.length) : i < t.length ∧ (rd_T87 t (i : Int)).f0 = T.op ∧ (rd_T87 t (i : Int)).f1 = T.n := by
  refine toP_get t i (T.op, T.n) ?_
  rw [Tree.flat_eq, List.length_append, List.length_singleton] at hi
  rw [h, Tree.flat_eq, List.append_assoc, List.append_assoc, List.getElem?_append_right (by omega), List.getElem?_append_right (by omega)]
  have e : i - pre.length - (Tree.flats T.kids).length = 0 := by omega
  rw [e]
  rfl
theorem arity_good (k : Nat) (hk : 0 < k) {T : Tree.Tr} (hg : Tree.Good T) : spec_l1Arity.f k T.op = some (T.kids.length : Int) := by
  rw [specArity_f k hk, if_pos (Tree.numOK_op hg.num), hg.arity]
theorem from_f (t : List S87) (hn : t.length ≤ 1048576) : ∀ (n : Nat) (T : Tree.Tr), T.flat.length ≤ n → Tree.Good T → ∀ (pre post : List (Int × Int)), toP t = pre ++ T.flat ++ post → ∀ (i : Nat), i + 1 = pre.length + T.flat.length → ∀ (k : Nat), 2 * T.flat.length + 1 ≤ k →
    spec_l2From.f k t (i : Int) = some (pre.length : Int) := by
  intro n
  induction n with
  | zero => intro T h; have := Tree.flat_pos T; omega
  | succ n ih =>
    intro T hsz hg pre post h i hi k hk
    obtain ⟨hil, ho, -⟩ := rd_flat t pre post T h i hi
    have hf : T.flat.length = (Tree.flats T.kids).length + 1 := by rw [Tree.flat_eq]; simp
    obtain ⟨k, rfl⟩ : ∃ m, k = m + 1 := ⟨k - 1, by omega⟩
    unfold spec_l2From.f
    rw [if_pos (by omega), if_pos (by omega), ho, arity_good k (by omega) hg, Option.bind_some]
    have loop : ∀ (j : Nat), j ≤ T.kids.length → ∀ (post' : List (Int × Int)), toP t = pre ++ Tree.flats (T.kids.take j) ++ post' → ∀ (k : Nat), 2 * (Tree.flats (T.kids.take j)).length + 2 ≤ k →
        spec_l2From.l0 k t ((pre.length + (Tree.flats (T.kids.take j)).length : Nat) : Int) (j : Int) = some (pre.length : Int) := by
      intro j
      induction j with
      | zero =>
        intro _ post' _ k hk
        obtain ⟨k, rfl⟩ : ∃ m, k = m + 1 := ⟨k - 1, by omega⟩
        unfold spec_l2From.l0
        rw [if_neg (by omega)]
        simp [Tree.flats]
      | succ j ihj =>
        intro hj post' hp k hk
        obtain ⟨k, rfl⟩ : ∃ m, k = m + 1 := ⟨k - 1, by omega⟩
        have hj' : j < T.kids.length := by omega
        have hK : T.kids[j]? = some T.kids[j] := List.getElem?_eq_getElem hj'
        have hKg : Tree.Good T.kids[j] := hg.kids _ (List.getElem_mem hj')
        have hKs := Tree.flats_len_mem (List.getElem_mem hj')
        generalize T.kids[j] = K at hK hKg hKs
        have hK1 := Tree.flat_pos K
        have hsucc := Tree.flats_take_succ T.kids j hK
        have hle := Tree.flats_take_le T.kids (j + 1)
        have hsplit : Tree.flats (T.kids.take (j + 1)) = Tree.flats (T.kids.take j) ++ K.flat := by
          obtain ⟨hi', e⟩ := List.getElem?_eq_some_iff.1 hK
          rw [List.take_succ_eq_append_getElem hi', Tree.flats_append, e]
          simp [Tree.flats]
        rw [hsplit] at hp
        have hp1 : toP t = (pre ++ Tree.flats (T.kids.take j)) ++ K.flat ++ post' := by rw [hp]; simp
        have hp2 : toP t = pre ++ Tree.flats (T.kids.take j) ++ (K.flat ++ post') := by rw [hp]; simp
        have hlen : pre.length + T.flat.length ≤ t.length := by
          have := congrArg List.length h
          rw [toP_len, List.length_append, List.length_append] at this
          omega
        unfold spec_l2From.l0
        have e1 : wrap64 (((pre.length + (Tree.flats (T.kids.take (j + 1))).length : Nat) : Int) - 1) = ((pre.length + (Tree.flats (T.kids.take j)).length + K.flat.length - 1 : Nat) : Int) := by unfold wrap64; omega
        have e2 : wrap64 (((j + 1 : Nat) : Int) - 1) = (j : Int) := by unfold wrap64; have := Tree.flats_ge T.kids; omega
        rw [if_pos (by omega), e1, e2, ih K (by omega) hKg (pre ++ Tree.flats (T.kids.take j)) post' hp1 _ (by rw [List.length_append]; omega) k (by omega), Option.bind_some, List.length_append]
        exact ihj (by omega) (K.flat ++ post') hp2 k (by omega)
    have hall := loop T.kids.length (Nat.le_refl _) ([(T.op, T.n)] ++ post) (by rw [List.take_length, h, Tree.flat_eq]; simp) k (by rw [List.take_length]; omega)
    rw [List.take_length] at hall
    rw [show (i : Int) = ((pre.length + (Tree.flats T.kids).length : Nat) : Int) by omega]
    exact hall

/-- What markNodeS writes: numbers from one on. -/
def mkN (m0 : Nat) (j : Nat) : S87 := ⟨((m0 + 2 * j : Nat) : Int), ((m0 + 2 * j + 1 : Nat) : Int)⟩
theorem markN_run (n : Nat) (hn : n ≤ 140737480000000) (m0 : Nat) (hm0 : m0 ≤ 300000000) (d : Nat) : ∀ (k i : Nat) (x : List S87), i + d = n → x.length = n → (∀ j, j < i → x[j]? = some (mkN m0 j)) → d < k →
    laws_markNodeS.l0 k x ((m0 + 2 * i : Nat) : Int) (i : Int) = some (((m0 + 2 * n : Nat) : Int), (List.range n).map (mkN m0)) := by
  induction d with
  | zero =>
    intro k i x hi hl hj hk
    obtain ⟨k, rfl⟩ : ∃ m, k = m + 1 := ⟨k - 1, by omega⟩
    simp only [laws_markNodeS.l0]
    rw [if_neg (by omega)]
    have e : i = n := by omega
    subst e
    congr 2
    apply List.ext_getElem?
    intro j
    by_cases h : j < i
    · rw [hj j h, List.getElem?_map, List.getElem?_range h]; rfl
    · rw [List.getElem?_eq_none (by omega), List.getElem?_eq_none (by simp; omega)]
  | succ d ih =>
    intro k i x hi hl hj hk
    obtain ⟨k, rfl⟩ : ∃ m, k = m + 1 := ⟨k - 1, by omega⟩
    simp only [laws_markNodeS.l0, Option.bind_some]
    have e1 : wrap64 (((m0 + 2 * i : Nat) : Int) + 1) = ((m0 + 2 * i + 1 : Nat) : Int) := by unfold wrap64; omega
    have e2 : wrap64 (((m0 + 2 * i + 1 : Nat) : Int) + 1) = ((m0 + 2 * (i + 1) : Nat) : Int) := by unfold wrap64; omega
    have e3 : (rd_T87 (x.set i ⟨((m0 + 2 * i : Nat) : Int), (rd_T87 x (i : Int)).f1⟩) (i : Int)).f0 = ((m0 + 2 * i : Nat) : Int) := by
      rw [rdN_nat, List.getD_eq_getElem?_getD, List.getElem?_set_self (by omega)]
      rfl
    rw [if_pos (by omega), if_pos (by omega), Int.toNat_natCast, e1, e2, wn64s i (by omega), e3]
    refine ih k (i + 1) _ (by omega) (by simpa using hl) ?_ (by omega)
    intro j hji
    rw [List.getElem?_set]
    by_cases h : i = j
    · subst h
      rw [if_pos rfl, if_pos (by simp; omega)]
      rfl
    · rw [if_neg h, List.getElem?_set_ne h]
      exact hj j (by omega)
theorem markN_f (x : List S87) (hn : x.length ≤ 140737480000000) (k : Nat) (hk : x.length < k) : laws_markNodeS.f k x 1 = some (((1 + 2 * x.length : Nat) : Int), (List.range x.length).map (mkN 1)) :=
  markN_run x.length hn 1 (by omega) x.length k 0 x (by omega) rfl (fun j hj => by omega) hk
theorem markN_g (x : List S87) (hn : x.length ≤ 140737480000000) (m0 : Nat) (hm0 : m0 ≤ 300000000) (k : Nat) (hk : x.length < k) : laws_markNodeS.f k x (m0 : Int) = some (((m0 + 2 * x.length : Nat) : Int), (List.range x.length).map (mkN m0)) :=
  markN_run x.length hn m0 hm0 x.length k 0 x (by omega) rfl (fun j hj => by omega) hk

theorem heldN_run (n : Nat) (hn : n ≤ 140737480000000) (m0 : Nat) (hm0 : m0 ≤ 300000000) (d : Nat) : ∀ (k i : Nat), i + d = n → d < k →
    laws_heldNodeS.l0 k ((List.range n).map (mkN m0)) ((m0 + 2 * i : Nat) : Int) (i : Int) = some ((m0 + 2 * n : Nat) : Int) := by
  induction d with
  | zero =>
    intro k i hi hk
    obtain ⟨k, rfl⟩ : ∃ m, k = m + 1 := ⟨k - 1, by omega⟩
    simp only [laws_heldNodeS.l0]
    rw [if_neg (by simp; omega)]
    congr 2
    omega
  | succ d ih =>
    intro k i hi hk
    obtain ⟨k, rfl⟩ : ∃ m, k = m + 1 := ⟨k - 1, by omega⟩
    simp only [laws_heldNodeS.l0]
    have hr : rd_T87 ((List.range n).map (mkN m0)) (i : Int) = mkN m0 i := by
      rw [rdN_nat, List.getD_eq_getElem?_getD, List.getElem?_map, List.getElem?_range (by omega)]
      rfl
    have e1 : wrap64 (((m0 + 2 * i : Nat) : Int) + 1) = ((m0 + 2 * i + 1 : Nat) : Int) := by unfold wrap64; omega
    have e2 : wrap64 (((m0 + 2 * i + 1 : Nat) : Int) + 1) = ((m0 + 2 * (i + 1) : Nat) : Int) := by unfold wrap64; omega
    rw [if_pos (by simp; omega), if_pos (by omega), hr, e1, e2]
    rw [if_pos (show (mkN m0 i).f0 = ((m0 + 2 * i : Nat) : Int) from rfl), if_pos (show (mkN m0 i).f1 = ((m0 + 2 * i + 1 : Nat) : Int) from rfl), wn64s i (by omega)]
    exact ih k (i + 1) (by omega) (by omega)
theorem heldN_f (n : Nat) (hn : n ≤ 140737480000000) (k : Nat) (hk : n < k) : laws_heldNodeS.f k ((List.range n).map (mkN 1)) 1 = some ((1 + 2 * n : Nat) : Int) :=
  heldN_run n hn 1 (by omega) n k 0 (by omega) hk

theorem own_f (l : List S87) (h : l.length ≤ 1048576) : spec_l2Own.f l = some l := by
  unfold spec_l2Own.f
  rw [Option.bind_some, if_pos (by simp; omega)]
  rfl
theorem made_f (l : List S87) (h : l.length ≤ 1048576) (k : Nat) (hk : l.length + 1 < k) : spec_l2Made.f k l = some (goodF l) := by
  unfold spec_l2Made.f goodF
  rw [specGood_f l h k hk, Option.bind_some]
  split <;> rfl
theorem trees_tree {t : List (Int × Int)} : (∃ Ts, Tree.treesOf t = some Ts) → (Tree.treeOf t).isSome = true := by
  rintro ⟨Ts, hT⟩
  have hat := Tree.treesOf_at hT
  have hok := Tree.treesOf_ok hT
  unfold Tree.treeOf
  rw [hT, Option.bind_some]
  cases hs : Ts with
  | nil => rw [hs] at hat; simp at hat; omega
  | cons x l => rw [List.getLast?_cons]; rfl
theorem replace_same (t u : List S87) (hn : t.length + u.length ≤ 1048576) (a : Int) (ha : (Lit.int .i64 a).wf = true) (k : Nat) (hk : 2 * t.length + u.length + 5 < k) : spec_ReplaceAt.f k t a u = impl_ReplaceAt.f t a u := by
  obtain ⟨k, rfl⟩ : ∃ m, k = m + 1 := ⟨k - 1, by omega⟩
  have hbad : spec_ReplaceAt.j0 (k + 1) t a u true = some ([], false) := by simp [spec_ReplaceAt.j0]
  unfold spec_ReplaceAt.f impl_ReplaceAt.f
  rw [specGood_f t (by omega) _ (by omega), Option.bind_some]
  have hw : wrap64 ((t.length : Int) - 1) = (t.length : Int) - 1 := by unfold wrap64; omega
  cases hT : Tree.treesOf (toP t) with
  | none =>
    have : (Tree.treeOf (toP t)).isSome = false := by unfold Tree.treeOf; rw [hT]; rfl
    rw [this, if_neg (by simp)]
    exact hbad
  | some Ts =>
    rw [trees_tree ⟨Ts, hT⟩, if_pos rfl, hw]
    have hat := Tree.treesOf_at hT
    rw [toP_len] at hat
    show _ = if (0 ≤ a ∧ a ≤ (t.length : Int) - 1) ∧ (Tree.treeOf (toP u)).isSome = true then some (goodF (t.take (nodeFrom a Ts) ++ (u ++ t.drop (a.toNat + 1)))) else some ([], false)
    unfold spec_l1In.f
    by_cases hin : 0 ≤ a ∧ a ≤ (t.length : Int) - 1
    · obtain ⟨i, rfl⟩ : ∃ i : Nat, a = (i : Int) := ⟨a.toNat, by omega⟩
      have hi : i < t.length := by omega
      rw [if_pos (by omega), Option.bind_some, decide_eq_true hin.2, if_pos rfl, specGood_f u (by omega) _ (by omega), Option.bind_some]
      cases hg : (Tree.treeOf (toP u)).isSome with
      | false => rw [if_neg (by simp)]; exact hbad
      | true =>
        obtain ⟨T, hTs, hgood, pre, hpre⟩ := hat.2 i hi
        have hsz : pre.length + T.flat.length = i + 1 := by
          have := congrArg List.length hpre
          rw [List.length_take, toP_len, List.length_append] at this
          omega
        have hfull : toP t = pre ++ T.flat ++ (toP t).drop (i + 1) := by rw [← hpre, List.take_append_drop]
        have hnf : nodeFrom (i : Int) Ts = pre.length := by
          unfold nodeFrom
          rw [Int.toNat_natCast, List.getD_eq_getElem?_getD, hTs]
          show i + 1 - T.flat.length = _
          omega
        have hfp := Tree.flat_pos T
        have hw2 : wrap64 ((i : Int) + 1) = ((i + 1 : Nat) : Int) := by unfold wrap64; omega
        have hl1 : (t.take pre.length).length = pre.length := by rw [List.length_take]; omega
        have hl2 : (t.drop (i + 1)).length = t.length - (i + 1) := List.length_drop
        rw [if_pos ⟨hin, rfl⟩, hnf, Int.toNat_natCast]
        simp only [spec_ReplaceAt.j0, Bool.not_true, Bool.false_eq_true, if_false]
        rw [from_f t (by omega) _ T (Nat.le_refl _) hgood pre _ hfull i hsz.symm k (by omega), Option.bind_some, if_pos (by omega), if_pos (by omega), Int.toNat_natCast, own_f _ (by omega), Option.bind_some, if_pos (by omega), Option.bind_some, hw2, if_pos (by omega), if_pos (by omega), Int.toNat_natCast, Option.bind_some, if_pos (by rw [List.length_append]; omega), List.append_assoc, made_f _ (by rw [List.length_append, List.length_append]; omega) k (by rw [List.length_append, List.length_append]; omega)]
        rfl
    · have hif : (if (0 ≤ a ∧ a ≤ (t.length : Int) - 1) ∧ (Tree.treeOf (toP u)).isSome = true then some (goodF (t.take (nodeFrom a Ts) ++ (u ++ t.drop (a.toNat + 1)))) else some ([], false)) = some ([], false) := if_neg (fun h => hin h.1)
      rw [hif]
      by_cases h0 : a ≥ 0
      · rw [if_pos h0, Option.bind_some, decide_eq_false (by omega)]
        exact hbad
      · rw [if_neg h0, Option.bind_some]
        exact hbad
theorem replace_some (t u : List S87) (a : Int) : ∃ p, impl_ReplaceAt.f t a u = some p ∧ p.1.length ≤ 2 * t.length + u.length := by
  unfold impl_ReplaceAt.f
  split
  · exact ⟨_, rfl, by simp⟩
  · split
    · refine ⟨_, rfl, ?_⟩
      unfold goodF
      split
      · simp only [List.length_append, List.length_take, List.length_drop]; omega
      · simp
    · exact ⟨_, rfl, by simp⟩
theorem FnExactReplaceAt : RdFnExactReplaceAt.Pure := by
  intro l a m hl _ ha hm _
  refine ⟨3 * (l.length + m.length) + 20, ?_⟩
  unfold laws_FnExactReplaceAt.f
  rw [szN_f l 1048576 (by omega) (by omega) hl, Option.bind_some]
  by_cases h : (1048576 : Int) - (l.length : Int) < 0
  · simp only [if_pos h]; rfl
  · rw [if_neg h, if_neg h, szN_f m _ (by omega) (by omega) hm, Option.bind_some]
    by_cases h' : (1048576 : Int) - (l.length : Int) - (m.length : Int) < 0
    · simp only [if_pos h']; rfl
    · have e1 : (l.map cvN).length = l.length := List.length_map _
      have e2 : (m.map cvN).length = m.length := List.length_map _
      obtain ⟨p, hp, hpl⟩ := replace_some (l.map cvN) (m.map cvN) a
      have hs := replace_same (l.map cvN) (m.map cvN) (by omega) a ha (3 * (l.length + m.length) + 20) (by omega)
      rw [hp] at hs
      have t0 := toN_f l (by omega) (3 * (l.length + m.length) + 20) (by omega)
      have t1 := toN_f l (by omega) (3 * (l.length + m.length) + 19) (by omega)
      have t2 := toN_f l (by omega) (3 * (l.length + m.length) + 18) (by omega)
      have s0 := toN_f m (by omega) (3 * (l.length + m.length) + 20) (by omega)
      have s1 := toN_f m (by omega) (3 * (l.length + m.length) + 19) (by omega)
      have s2 := toN_f m (by omega) (3 * (l.length + m.length) + 18) (by omega)
      have q0 := eqN_f p.1 (by omega) (3 * (l.length + m.length) + 20) (by omega)
      have q1 := eqN_f p.1 (by omega) (3 * (l.length + m.length) + 19) (by omega)
      have q2 := eqN_f p.1 (by omega) (3 * (l.length + m.length) + 18) (by omega)
      have q3 := eqN_f (l.map cvN) (by omega) (3 * (l.length + m.length) + 19) (by omega)
      have q4 := eqN_f (m.map cvN) (by omega) (3 * (l.length + m.length) + 19) (by omega)
      have m1 := markN_f (l.map cvN) (by omega) (3 * (l.length + m.length) + 19) (by omega)
      have m3 := markN_g (m.map cvN) (by omega) (1 + 2 * (l.map cvN).length) (by omega) (3 * (l.length + m.length) + 19) (by omega)
      have m2 := markN_f p.1 (by omega) (3 * (l.length + m.length) + 18) (by omega)
      have d1 := heldN_f p.1.length (by omega) (3 * (l.length + m.length) + 18) (by omega)
      have d2 := heldN_f p.1.length (by omega) (3 * (l.length + m.length) + 17) (by omega)
      rw [if_neg h', if_neg h']
      simp only [t0, s0, hs, hp, q0, Option.bind_some, if_true, bne_self_eq_false]
      simp only [laws_FnExactReplaceAt.j0, t1, s1, q3, q4, m1, m3, q1, Option.bind_some, if_true, Bool.false_eq_true, if_false, bne_self_eq_false]
      rw [if_neg (by omega)]
      simp only [laws_FnExactReplaceAt.j1, m2, d1, t2, s2, hp, q2, Option.bind_some, if_true, Bool.false_eq_true, if_false, bne_self_eq_false]
      rw [if_neg (by omega)]
      simp only [laws_FnExactReplaceAt.j2, d2, Option.bind_some, if_true, Bool.false_eq_true, if_false]
      rw [if_neg (by omega)]

end Go.Proofs.Ytlneknaiimmfmaa.Pure
