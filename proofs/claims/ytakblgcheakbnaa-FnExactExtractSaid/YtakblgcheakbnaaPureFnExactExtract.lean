/- The program's Extract and the reference's answer alike at every graph and number; no condition. -/
import Derived.Test.YtakblgcheakbnaaPFnExactExtractx18
import Derived.Test.YtakblgcheakbnaaRdFnExactExtract
set_option linter.unusedVariables false
set_option linter.unusedSimpArgs false
namespace Go.Proofs.Ytakblgcheakbnaa.Pure
open Go.RowKit Go.Proofs.Ytakblgcheakbnaa.PFnExactExtract Go.Proofs.YtakblgcheakbnaaW.PrintWords Go.Proofs.YtakblgcheakbnaaW.PrintLast Go.Proofs.YtakblgcheakbnaaW.PrintMore

/-- A list of nodes as pairs. -/
def toP (l : List S96) : List (Int × Int) := l.map fun x => (x.f0, x.f1)
theorem toP_len (l : List S96) : (toP l).length = l.length := List.length_map _
theorem build_succ (l : List S96) (k : Nat) (hk : k < l.length) {s0 s : List Tree.Tr × List Tree.Tr} (h : Tree.build (toP (l.take k)) s0 = some s) : Tree.build (toP (l.take (k + 1))) s0 = Tree.step s ((l.getD k z96).f0, (l.getD k z96).f1) := by
  have e : l.take (k + 1) = l.take k ++ [l.getD k z96] := by
    rw [List.take_add_one, List.getD_eq_getElem?_getD, List.getElem?_eq_getElem hk]
    rfl
  rw [e]
  unfold toP at h ⊢
  rw [List.map_append, Tree.build_append, h]
  show (Tree.step s _).bind (Tree.build []) = _
  cases Tree.step s ((l.getD k z96).f0, (l.getD k z96).f1) <;> rfl
theorem build_fail (l : List S96) (k : Nat) (hk : k < l.length) {s0 s : List Tree.Tr × List Tree.Tr} (h : Tree.build (toP (l.take k)) s0 = some s) (hf : Tree.step s ((l.getD k z96).f0, (l.getD k z96).f1) = none) : Tree.build (toP l) s0 = none := by
  have h1 := build_succ l k hk h
  have e : toP l = toP (l.take (k + 1)) ++ toP (l.drop (k + 1)) := by unfold toP; rw [← List.map_append, List.take_append_drop]
  rw [e, Tree.build_append, h1, hf]
  rfl

theorem wn64s (i : Nat) (h : i ≤ 140737488355328) : wrap64 ((i : Int) + 1) = ((i + 1 : Nat) : Int) := by unfold wrap64; omega
theorem rdN_nat (l : List S96) (i : Nat) : rd_T96 l (i : Int) = l.getD i z96 := by simp [rd_T96]
theorem eqN_run (x0 : List S96) (hn : x0.length ≤ 140737488351232) (d : Nat) : ∀ (k i : Nat), i + d = x0.length → d < k → laws_eqNodeS.l0 k x0 x0 (i : Int) = some true := by
  induction d with
  | zero =>
    intro k i hi hk
    obtain ⟨k, rfl⟩ : ∃ m, k = m + 1 := ⟨k - 1, by omega⟩
    simp only [laws_eqNodeS.l0]
    rw [if_neg (by omega)]
  | succ d ih =>
    intro k i hi hk
    obtain ⟨k, rfl⟩ : ∃ m, k = m + 1 := ⟨k - 1, by omega⟩
    simp only [laws_eqNodeS.l0, laws_eqNode.f]
    rw [if_pos (by omega), if_pos (by omega), if_pos (by omega), if_pos trivial, if_pos trivial, Option.bind_some, if_pos rfl, wn64s i (by omega)]
    exact ih k (i + 1) (by omega) (by omega)
theorem eqN_f (l : List S96) (hn : l.length ≤ 140737488351232) (k : Nat) (hk : l.length < k) : laws_eqNodeS.f k l l = some true := by
  unfold laws_eqNodeS.f
  rw [if_pos rfl]
  exact eqN_run l hn l.length k 0 (by omega) hk

theorem specArity_g (k : Nat) (hk : 0 < k) (op : Int) : spec_l1Arity.f k op = some (if 1 ≤ op ∧ op ≤ 11 then Tree.arity op else -1) := by
  obtain ⟨k, rfl⟩ : ∃ m, k = m + 1 := ⟨k - 1, by omega⟩
  unfold spec_l1Arity.f Tree.arity
  by_cases h1 : op = 1
  · subst h1; rfl
  · rw [if_neg h1]
    by_cases h2 : op = 2
    · subst h2; rfl
    · rw [if_neg (by omega : ¬ (op = 1 ∨ op = 2))]
      simp only [spec_l1Arity.j0]
      rw [if_neg (by simpa using h2)]
      by_cases h3 : op = 3
      · subst h3; rfl
      · rw [if_neg h3, if_neg h3]
        by_cases h4 : op = 11
        · subst h4; rfl
        · rw [if_neg h4, if_neg h4]
          unfold spec_l1In.f
          by_cases h5 : op ≥ 4
          · by_cases h6 : op ≤ 10
            · rw [if_pos h5, Option.bind_some, decide_eq_true h6, if_pos rfl, if_pos (by omega)]
            · rw [if_pos h5, Option.bind_some, decide_eq_false h6, if_neg (by simp), if_neg (by omega)]
          · rw [if_neg h5, Option.bind_some, if_neg (by simp), if_neg (by omega)]
/-- How many trees a list of nodes leaves. -/
def goodB (r : Option (List Tree.Tr × List Tree.Tr)) : Bool := match r with | some s => s.1.length == 1 | none => false
theorem specGood_run (t : List S96) (hn : t.length ≤ 1048576) (d : Nat) : ∀ (k i : Nat) (s : List Tree.Tr × List Tree.Tr), i + d = t.length → Tree.build (toP (t.take i)) ([], []) = some s → d + 1 < k →
    spec_GoodTerm.l0 k (s.1.length : Int) t (t.length : Int) (i : Int) = some (goodB (Tree.build (toP t) ([], []))) := by
  induction d with
  | zero =>
    intro k i s hi hs hk
    obtain ⟨k, rfl⟩ : ∃ m, k = m + 1 := ⟨k - 1, by omega⟩
    simp only [spec_GoodTerm.l0]
    have e : t.take i = t := List.take_of_length_le (by omega)
    rw [e] at hs
    rw [if_neg (by omega), hs]
    show some ((s.1.length : Int) == 1) = some (s.1.length == 1)
    congr 1
    rw [Bool.eq_iff_iff]; simp; omega
  | succ d ih =>
    intro k i s hi hs hk
    obtain ⟨k, rfl⟩ : ∃ m, k = m + 1 := ⟨k - 1, by omega⟩
    simp only [spec_GoodTerm.l0]
    rw [if_pos (by omega), if_pos (by omega), if_pos (by omega), specArity_g k (by omega), Option.bind_some, wn64s i (by omega), rdN_nat]
    have hlen := (Tree.build_len _ _ _ hs).1
    rw [toP_len, List.length_take] at hlen
    have hl2 : s.1.length ≤ t.length := by simp at hlen; omega
    have hsucc := build_succ t i (by omega) hs
    have hfail := build_fail t i (by omega) hs
    generalize t.getD i z96 = x at hsucc hfail ⊢
    obtain ⟨op, n⟩ := x
    simp only at hsucc hfail ⊢
    have hr := Tree.arity_range op
    have hbad : (Tree.numOK op n = true ∧ Tree.arity op ≤ (s.1.length : Int)) → False → True := fun _ _ => trivial
    by_cases hst : Tree.numOK op n = true ∧ Tree.arity op ≤ (s.1.length : Int)
    · have hstep : Tree.step s (op, n) = some (s.1.take (s.1.length - (Tree.arity op).toNat) ++ [.mk op n (s.1.drop (s.1.length - (Tree.arity op).toNat))], s.2 ++ [.mk op n (s.1.drop (s.1.length - (Tree.arity op).toNat))]) := if_pos hst
      rw [hstep] at hsucc
      have hgo := ih k (i + 1) _ (by omega) hsucc (by omega)
      have hlen' : (((s.1.take (s.1.length - (Tree.arity op).toNat) ++ [Tree.Tr.mk op n (s.1.drop (s.1.length - (Tree.arity op).toNat))]).length : Nat) : Int) = wrap64 ((s.1.length : Int) + wrap64 (1 - Tree.arity op)) := by
        rw [List.length_append, List.length_take, List.length_singleton]
        unfold wrap64
        omega
      simp only [hlen'] at hgo
      obtain ⟨hN, hA⟩ := hst
      unfold Tree.numOK at hN
      have hop : 1 ≤ op ∧ op ≤ 11 := by
        by_cases h1 : op = 1
        · omega
        · rw [if_neg h1] at hN
          by_cases h2 : op = 2
          · omega
          · rw [if_neg h2] at hN
            have := of_decide_eq_true hN
            omega
      rw [if_pos hop, if_neg (by omega), if_neg (by omega)]
      by_cases h2 : op = 2
      · subst h2
        rw [if_neg (by omega), if_pos rfl] at hN
        have hN := of_decide_eq_true hN
        rw [if_pos rfl, if_neg (by omega), if_neg (by omega), if_neg (by decide)]
        exact hgo
      · rw [if_neg h2]
        by_cases h1 : op = 1
        · subst h1
          rw [if_neg (by decide)]
          exact hgo
        · rw [if_neg h1, if_neg h2] at hN
          have hN := of_decide_eq_true hN
          have hpos : Tree.arity op > 0 := by
            unfold Tree.arity
            rw [if_neg (by omega)]
            split
            · omega
            · split <;> omega
          rw [if_pos hpos, if_pos hN.2.2]
          exact hgo
    · rw [hfail (if_neg hst)]
      show _ = some false
      by_cases hop : 1 ≤ op ∧ op ≤ 11
      · rw [if_pos hop, if_neg (by omega)]
        by_cases ha : (s.1.length : Int) < Tree.arity op
        · rw [if_pos ha]
        · rw [if_neg ha]
          have hN : ¬ Tree.numOK op n = true := fun h => hst ⟨h, by omega⟩
          unfold Tree.numOK at hN
          by_cases h2 : op = 2
          · subst h2
            rw [if_neg (by omega), if_pos rfl] at hN
            have hN : ¬ (0 ≤ n ∧ n < 4) := fun h => hN (decide_eq_true h)
            rw [if_pos rfl]
            by_cases hn0 : n < 0
            · rw [if_pos hn0]
            · rw [if_neg hn0, if_pos (by omega)]
          · rw [if_neg h2]
            by_cases h1 : op = 1
            · exact absurd (if_pos h1) hN
            · rw [if_neg h1, if_neg h2] at hN
              have hN : ¬ (1 ≤ op ∧ op ≤ 11 ∧ n = 0) := fun h => hN (decide_eq_true h)
              have hpos : Tree.arity op > 0 := by
                unfold Tree.arity
                rw [if_neg (by omega)]
                split
                · omega
                · split <;> omega
              rw [if_pos hpos, if_neg (by omega)]
      · rw [if_neg hop, if_pos (by omega)]
theorem treeOf_isSome (t : List (Int × Int)) : (Tree.treeOf t).isSome = (decide (1 ≤ t.length ∧ t.length ≤ 40) && goodB (Tree.build t ([], []))) := by
  unfold Tree.treeOf Tree.treesOf
  by_cases h : 1 ≤ t.length ∧ t.length ≤ 40
  · rw [if_pos h, decide_eq_true h, Bool.true_and]
    cases hb : Tree.build t ([], []) with
    | none => rfl
    | some s =>
      show (Option.bind (if s.1.length = 1 then some s.2 else none) List.getLast?).isSome = (s.1.length == 1)
      by_cases h1 : s.1.length = 1
      · have hl := (Tree.build_len _ _ _ hb).2
        rw [if_pos h1, Option.bind_some, h1]
        cases hs : s.2 with
        | nil => rw [hs] at hl; simp at hl; omega
        | cons a l => rw [List.getLast?_cons]; rfl
      · rw [if_neg h1]
        simp [h1]
  · rw [if_neg h, decide_eq_false h]; rfl
theorem specGood_f (t : List S96) (hn : t.length ≤ 1048576) (k : Nat) (hk : t.length + 1 < k) : spec_GoodTerm.f k t = some (Tree.treeOf (toP t)).isSome := by
  unfold spec_GoodTerm.f spec_l1In.f
  rw [treeOf_isSome, toP_len]
  by_cases h0 : 1 ≤ t.length
  · rw [if_pos (by omega), Option.bind_some]
    by_cases h1 : t.length ≤ 40
    · rw [decide_eq_true (by omega), if_pos rfl, decide_eq_true (⟨h0, h1⟩ : 1 ≤ t.length ∧ t.length ≤ 40), Bool.true_and]
      exact specGood_run t hn t.length k 0 ([], []) (by omega) rfl hk
    · rw [decide_eq_false (by omega), if_neg (by simp), decide_eq_false (by omega)]; rfl
  · rw [if_neg (by omega), Option.bind_some, if_neg (by simp), decide_eq_false (by omega)]; rfl

/-- What markNodeS writes: numbers from one on. -/
def mkN (m0 : Nat) (j : Nat) : S96 := ⟨((m0 + 2 * j : Nat) : Int), ((m0 + 2 * j + 1 : Nat) : Int)⟩
theorem markN_run (n : Nat) (hn : n ≤ 140737480000000) (m0 : Nat) (hm0 : m0 ≤ 300000000) (d : Nat) : ∀ (k i : Nat) (x : List S96), i + d = n → x.length = n → (∀ j, j < i → x[j]? = some (mkN m0 j)) → d < k →
    laws_markNodeS.l0 k x ((m0 + 2 * i : Nat) : Int) (i : Int) = some (((m0 + 2 * n : Nat) : Int), (List.range n).map (mkN m0)) := by
  induction d with
  | zero =>
    intro k i x hi hl hj hk
    obtain ⟨k, rfl⟩ : ∃ m, k = m + 1 := ⟨k - 1, by omega⟩
    simp only [laws_markNodeS.l0]
    rw [if_neg (by omega)]
    have e : i = n := by omega
    subst e
    congr 2
    apply List.ext_getElem?
    intro j
    by_cases h : j < i
    · rw [hj j h, List.getElem?_map, List.getElem?_range h]; rfl
    · rw [List.getElem?_eq_none (by omega), List.getElem?_eq_none (by simp; omega)]
  | succ d ih =>
    intro k i x hi hl hj hk
    obtain ⟨k, rfl⟩ : ∃ m, k = m + 1 := ⟨k - 1, by omega⟩
    simp only [laws_markNodeS.l0, Option.bind_some]
    have e1 : wrap64 (((m0 + 2 * i : Nat) : Int) + 1) = ((m0 + 2 * i + 1 : Nat) : Int) := by unfold wrap64; omega
    have e2 : wrap64 (((m0 + 2 * i + 1 : Nat) : Int) + 1) = ((m0 + 2 * (i + 1) : Nat) : Int) := by unfold wrap64; omega
    have e3 : (rd_T96 (x.set i ⟨((m0 + 2 * i : Nat) : Int), (rd_T96 x (i : Int)).f1⟩) (i : Int)).f0 = ((m0 + 2 * i : Nat) : Int) := by
      rw [rdN_nat, List.getD_eq_getElem?_getD, List.getElem?_set_self (by omega)]
      rfl
    rw [if_pos (by omega), if_pos (by omega), Int.toNat_natCast, e1, e2, wn64s i (by omega), e3]
    refine ih k (i + 1) _ (by omega) (by simpa using hl) ?_ (by omega)
    intro j hji
    rw [List.getElem?_set]
    by_cases h : i = j
    · subst h
      rw [if_pos rfl, if_pos (by simp; omega)]
      rfl
    · rw [if_neg h, List.getElem?_set_ne h]
      exact hj j (by omega)
theorem markN_f (x : List S96) (hn : x.length ≤ 140737480000000) (k : Nat) (hk : x.length < k) : laws_markNodeS.f k x 1 = some (((1 + 2 * x.length : Nat) : Int), (List.range x.length).map (mkN 1)) :=
  markN_run x.length hn 1 (by omega) x.length k 0 x (by omega) rfl (fun j hj => by omega) hk
theorem markN_g (x : List S96) (hn : x.length ≤ 140737480000000) (m0 : Nat) (hm0 : m0 ≤ 300000000) (k : Nat) (hk : x.length < k) : laws_markNodeS.f k x (m0 : Int) = some (((m0 + 2 * x.length : Nat) : Int), (List.range x.length).map (mkN m0)) :=
  markN_run x.length hn m0 hm0 x.length k 0 x (by omega) rfl (fun j hj => by omega) hk

theorem heldN_run (n : Nat) (hn : n ≤ 140737480000000) (m0 : Nat) (hm0 : m0 ≤ 300000000) (d : Nat) : ∀ (k i : Nat), i + d = n → d < k →
    laws_heldNodeS.l0 k ((List.range n).map (mkN m0)) ((m0 + 2 * i : Nat) : Int) (i : Int) = some ((m0 + 2 * n : Nat) : Int) := by
  induction d with
  | zero =>
    intro k i hi hk
    obtain ⟨k, rfl⟩ : ∃ m, k = m + 1 := ⟨k - 1, by omega⟩
    simp only [laws_heldNodeS.l0]
    rw [if_neg (by simp; omega)]
    congr 2
    omega
  | succ d ih =>
    intro k i hi hk
    obtain ⟨k, rfl⟩ : ∃ m, k = m + 1 := ⟨k - 1, by omega⟩
    simp only [laws_heldNodeS.l0]
    have hr : rd_T96 ((List.range n).map (mkN m0)) (i : Int) = mkN m0 i := by
      rw [rdN_nat, List.getD_eq_getElem?_getD, List.getElem?_map, List.getElem?_range (by omega)]
      rfl
    have e1 : wrap64 (((m0 + 2 * i : Nat) : Int) + 1) = ((m0 + 2 * i + 1 : Nat) : Int) := by unfold wrap64; omega
    have e2 : wrap64 (((m0 + 2 * i + 1 : Nat) : Int) + 1) = ((m0 + 2 * (i + 1) : Nat) : Int) := by unfold wrap64; omega
    rw [if_pos (by simp; omega), if_pos (by omega), hr, e1, e2]
    rw [if_pos (show (mkN m0 i).f0 = ((m0 + 2 * i : Nat) : Int) from rfl), if_pos (show (mkN m0 i).f1 = ((m0 + 2 * i + 1 : Nat) : Int) from rfl), wn64s i (by omega)]
    exact ih k (i + 1) (by omega) (by omega)
theorem heldN_f (n : Nat) (hn : n ≤ 140737480000000) (k : Nat) (hk : n < k) : laws_heldNodeS.f k ((List.range n).map (mkN 1)) 1 = some ((1 + 2 * n : Nat) : Int) :=
  heldN_run n hn 1 (by omega) n k 0 (by omega) hk

theorem w64 (x : Int) (h0 : -9223372036854775808 ≤ x) (h1 : x ≤ 9223372036854775807) : wrap64 x = x := by unfold wrap64; omega
theorem w64s (i : Nat) (h : i ≤ 140737488355328) : wrap64 ((i : Int) + 1) = ((i + 1 : Nat) : Int) := by rw [w64 _ (by omega) (by omega)]; omega
theorem rd_nat (l : List Int) (i : Nat) : rd l (i : Int) = l.getD i 0 := by simp [rd]
theorem getD_lt (l : List Int) (i : Nat) (h : i < l.length) : l.getD i 0 = l[i] := by simp [List.getD_eq_getElem?_getD, h]

theorem laws_toIntS_run (x0 : List Int) (hn : x0.length ≤ 140737488351232) (d : Nat) : ∀ (k i : Nat) (x3 : List Int), i + d = x0.length → x3.length = x0.length → (∀ j, j < i → x3[j]? = x0[j]?) → d < k →
    laws_toIntS.l0 k x0 x3 (i : Int) = some x0 := by
  induction d with
  | zero =>
    intro k i x3 hi hl hj hk
    obtain ⟨k, rfl⟩ : ∃ m, k = m + 1 := ⟨k - 1, by omega⟩
    simp only [laws_toIntS.l0]
    rw [if_neg (by omega)]
    congr 1
    apply List.ext_getElem?
    intro j
    by_cases h : j < i
    · exact hj j h
    · rw [List.getElem?_eq_none (by omega), List.getElem?_eq_none (by omega)]
  | succ d ih =>
    intro k i x3 hi hl hj hk
    obtain ⟨k, rfl⟩ : ∃ m, k = m + 1 := ⟨k - 1, by omega⟩
    simp only [laws_toIntS.l0]
    rw [if_pos (by omega), if_pos (by omega), if_pos (by omega), w64s i (by omega)]
    refine ih k (i + 1) _ (by omega) (by simpa using hl) ?_ (by omega)
    intro j hji
    rw [Int.toNat_natCast, rd_nat, List.getElem?_set]
    by_cases h : i = j
    · subst h
      rw [if_pos rfl, if_pos (by omega), getD_lt _ _ (by omega), List.getElem?_eq_getElem (by omega)]
    · rw [if_neg h]
      exact hj j (by omega)
theorem laws_toIntS_f (l : List Int) (hn : l.length ≤ 1048576) (k : Nat) (hk : l.length < k) : laws_toIntS.f k l = some l := by
  unfold laws_toIntS.f
  rw [if_pos (by omega), if_pos (by omega)]
  exact laws_toIntS_run l (by omega) l.length k 0 _ (by omega) (by simp) (fun j hj => by omega) hk

theorem laws_eqIntS_run (x0 : List Int) (hn : x0.length ≤ 140737488351232) (d : Nat) : ∀ (k i : Nat), i + d = x0.length → d < k → laws_eqIntS.l0 k x0 x0 (i : Int) = some true := by
  induction d with
  | zero =>
    intro k i hi hk
    obtain ⟨k, rfl⟩ : ∃ m, k = m + 1 := ⟨k - 1, by omega⟩
    simp only [laws_eqIntS.l0]
    rw [if_neg (by omega)]
  | succ d ih =>
    intro k i hi hk
    obtain ⟨k, rfl⟩ : ∃ m, k = m + 1 := ⟨k - 1, by omega⟩
    simp only [laws_eqIntS.l0]
    rw [if_pos (by omega), if_pos (by omega), if_pos (by omega), if_pos trivial, w64s i (by omega)]
    exact ih k (i + 1) (by omega) (by omega)
theorem laws_eqIntS_f (l : List Int) (hn : l.length ≤ 140737488351232) (k : Nat) (hk : l.length < k) : laws_eqIntS.f k l l = some true := by
  unfold laws_eqIntS.f
  rw [if_pos rfl]
  exact laws_eqIntS_run l hn l.length k 0 (by omega) hk

/-- Parts: each number's is at most itself, and its own. -/
def goodAt (l : List Int) (i : Nat) : Prop := 0 ≤ l.getD i 0 ∧ l.getD i 0 ≤ (i : Int) ∧ l.getD (l.getD i 0).toNat 0 = l.getD i 0
instance (l : List Int) (i : Nat) : Decidable (goodAt l i) := by unfold goodAt; infer_instance
def okParts (l : List Int) : Bool := decide ((∀ i : Nat, i < l.length → goodAt l i) ∧ l.length ≤ 200)
theorem rd_int (l : List Int) (x : Int) : rd l x = l.getD x.toNat 0 := rfl
theorem spec_GoodParts_run (x0 : List Int) (hn : x0.length ≤ 200) (d : Nat) : ∀ (k i : Nat), i + d = x0.length → (∀ j : Nat, j < i → goodAt x0 j) → d < k →
    spec_GoodParts.l0 k x0 x0 (x0.length : Int) (i : Int) = some (okParts x0) := by
  induction d with
  | zero =>
    intro k i hi hj hk
    obtain ⟨k, rfl⟩ : ∃ m, k = m + 1 := ⟨k - 1, by omega⟩
    simp only [spec_GoodParts.l0]
    rw [if_neg (by omega)]
    congr 1
    symm
    exact decide_eq_true ⟨fun j hj' => hj j (by omega), hn⟩
  | succ d ih =>
    intro k i hi hj hk
    obtain ⟨k, rfl⟩ : ∃ m, k = m + 1 := ⟨k - 1, by omega⟩
    simp only [spec_GoodParts.l0]
    rw [if_pos (by omega), if_pos (by omega), if_pos (by omega), rd_nat]
    unfold spec_l1In.f
    by_cases h0 : x0.getD i 0 ≥ 0
    · rw [if_pos h0]
      by_cases h1 : x0.getD i 0 ≤ (i : Int)
      · rw [decide_eq_true h1, Option.bind_some, if_pos rfl, if_pos (by omega), if_pos (by omega), w64s i (by omega), rd_int]
        by_cases h2 : x0.getD (x0.getD i 0).toNat 0 = x0.getD i 0
        · rw [if_pos h2]
          exact ih k (i + 1) (by omega) (fun j hj' => by
            by_cases e : j = i
            · subst e; exact ⟨h0, h1, h2⟩
            · exact hj j (by omega)) (by omega)
        · rw [if_neg h2]
          congr 1
          symm
          exact decide_eq_false (fun h => h2 (h.1 i (by omega)).2.2)
      · rw [decide_eq_false h1, Option.bind_some, if_neg (by simp)]
        congr 1
        symm
        exact decide_eq_false (fun h => h1 (h.1 i (by omega)).2.1)
    · rw [if_neg h0, Option.bind_some, if_neg (by simp)]
      congr 1
      symm
      exact decide_eq_false (fun h => h0 (h.1 i (by omega)).1)
theorem spec_GoodParts_f (l : List Int) (k : Nat) (hk : l.length < k) : spec_GoodParts.f k l = some (okParts l) := by
  unfold spec_GoodParts.f
  by_cases h : (l.length : Int) > 200
  · rw [if_pos h]
    congr 1
    symm
    exact decide_eq_false (fun h' => by have := h'.2; omega)
  · rw [if_neg h]
    exact spec_GoodParts_run l (by omega) l.length k 0 (by omega) (fun j hj => by omega) hk
/-- Parents, as the program asks first. -/
def okPar (l : List Int) : Bool := decide ((∀ i : Nat, i < l.length → 0 ≤ l.getD i 0 ∧ l.getD i 0 ≤ (i : Int)) ∧ l.length ≤ 200)
theorem impl_parentsOK_run (x0 : List Int) (hn : x0.length ≤ 140737488351232) (d : Nat) : ∀ (k i : Nat), i + d = x0.length → (∀ j : Nat, j < i → 0 ≤ x0.getD j 0 ∧ x0.getD j 0 ≤ (j : Int)) → d < k →
    impl_parentsOK.l0 k x0 x0 (x0.length : Int) (i : Int) = some (okPar x0) := by
  induction d with
  | zero =>
    intro k i hi hj hk
    obtain ⟨k, rfl⟩ : ∃ m, k = m + 1 := ⟨k - 1, by omega⟩
    simp only [impl_parentsOK.l0]
    rw [if_neg (by omega)]
    congr 1
    unfold okPar
    rw [decide_eq_decide]
    constructor
    · intro h; exact ⟨fun j hj' => hj j (by omega), by omega⟩
    · intro h; have := h.2; omega
  | succ d ih =>
    intro k i hi hj hk
    obtain ⟨k, rfl⟩ : ∃ m, k = m + 1 := ⟨k - 1, by omega⟩
    simp only [impl_parentsOK.l0]
    rw [if_pos (by omega), if_pos (by omega), if_pos (by omega), rd_nat]
    unfold impl_within.f
    by_cases h0 : x0.getD i 0 ≥ 0
    · rw [if_pos h0]
      by_cases h1 : x0.getD i 0 ≤ (i : Int)
      · rw [decide_eq_true h1, Option.bind_some, if_pos rfl, w64s i (by omega)]
        exact ih k (i + 1) (by omega) (fun j hj' => by
          by_cases e : j = i
          · subst e; exact ⟨h0, h1⟩
          · exact hj j (by omega)) (by omega)
      · rw [decide_eq_false h1, Option.bind_some, if_neg (by simp)]
        congr 1
        symm
        exact decide_eq_false (fun h => h1 (h.1 i (by omega)).2)
    · rw [if_neg h0, Option.bind_some, if_neg (by simp)]
      congr 1
      symm
      exact decide_eq_false (fun h => h0 (h.1 i (by omega)).1)
theorem impl_parentsOK_f (l : List Int) (hn : l.length ≤ 140737488351232) (k : Nat) (hk : l.length < k) : impl_parentsOK.f k l = some (okPar l) :=
  impl_parentsOK_run l hn l.length k 0 (by omega) (fun j hj => by omega) hk
theorem impl_GoodParts_f (l : List Int) (hn : l.length ≤ 140737488351232) (k : Nat) (hk : l.length < k) : impl_GoodParts.f k l = some (okParts l) := by
  unfold impl_GoodParts.f
  rw [impl_parentsOK_f l hn k hk, Option.bind_some]
  cases hp : okPar l with
  | false =>
    rw [if_neg (by simp)]
    congr 1
    symm
    exact decide_eq_false (fun h => by
      have : okPar l = true := decide_eq_true ⟨fun i hi => ⟨(h.1 i hi).1, (h.1 i hi).2.1⟩, h.2⟩
      rw [hp] at this; cases this)
  | true =>
    have hp' := of_decide_eq_true hp
    rw [if_pos rfl]
    congr 1
    rw [Bool.eq_iff_iff]
    simp only [Bool.not_eq_true', List.any_eq_false, okParts, decide_eq_true_eq]
    constructor
    · intro h
      refine ⟨fun i hi => ⟨(hp'.1 i hi).1, (hp'.1 i hi).2, ?_⟩, hp'.2⟩
      have := h l[i] (List.getElem_mem hi)
      rw [getD_lt _ _ hi]
      simpa [rd_int] using this
    · intro h x hx
      obtain ⟨i, hi, rfl⟩ := List.getElem_of_mem hx
      have := (h.1 i hi).2.2
      rw [getD_lt _ _ hi] at this
      simpa [rd_int] using this

def cvE (x : S130) : S114 := ⟨x.f0, x.f1, x.f2⟩
theorem szI_f (l : List Int) (m : Int) (hm0 : 0 ≤ m) (hm : m ≤ 1048576) (hl : l.length ≤ 9223372036854775807) : laws_szIntS.f l m = some (if m - (l.length : Int) < 0 then -1 else m - (l.length : Int)) := by
  unfold laws_szIntS.f
  have e : wrap64 (m - (l.length : Int)) = m - (l.length : Int) := by unfold wrap64; omega
  rw [e]
  split <;> rfl
theorem rdLE_nat (l : List S130) (i : Nat) (h : i < l.length) : rd_T130 l (i : Int) = l[i] := by unfold rd_T130; rw [Int.toNat_natCast, List.getD_eq_getElem?_getD, List.getElem?_eq_getElem h]; rfl
theorem rdE_nat (l : List S114) (i : Nat) (h : i < l.length) : rd_T114 l (i : Int) = l[i] := by unfold rd_T114; rw [Int.toNat_natCast, List.getD_eq_getElem?_getD, List.getElem?_eq_getElem h]; rfl
theorem szE_run (x0 : List S130) (hn : x0.length ≤ 1048576) (hin : ∀ x ∈ x0, x.f2.length ≤ 9223372036854775807) (d : Nat) : ∀ (k i : Nat) (m : Int), i + d = x0.length → d < k → 0 ≤ m → m ≤ 1048576 →
    ∃ t, laws_szENodeS.l0 k x0 m (i : Int) = some t ∧ (t < 0 ∨ (0 ≤ t ∧ t + ((((x0.drop i).map fun x => x.f2.length).sum : Nat) : Int) = m ∧ ∀ j, i ≤ j → (h : j < x0.length) → x0[j].f2.length ≤ 1048576)) := by
  induction d with
  | zero =>
    intro k i m hi hk h0 h1
    obtain ⟨k, rfl⟩ : ∃ j, k = j + 1 := ⟨k - 1, by omega⟩
    simp only [laws_szENodeS.l0]
    rw [if_neg (by omega)]
    exact ⟨_, rfl, .inr ⟨h0, by rw [List.drop_of_length_le (by omega)]; simp, fun j hj h => by omega⟩⟩
  | succ d ih =>
    intro k i m hi hk h0 h1
    obtain ⟨k, rfl⟩ : ∃ j, k = j + 1 := ⟨k - 1, by omega⟩
    have hil : i < x0.length := by omega
    have hx := hin _ (List.getElem_mem hil)
    simp only [laws_szENodeS.l0]
    rw [if_pos (by omega), if_pos (by omega), rdLE_nat _ i hil]
    unfold laws_szENode.f
    rw [szI_f _ m h0 h1 hx, Option.bind_some]
    by_cases hneg : m - (x0[i].f2.length : Int) < 0
    · rw [if_pos hneg, if_pos (by omega), Option.bind_some, if_pos (by omega)]
      exact ⟨_, rfl, .inl (by omega)⟩
    · rw [if_neg hneg, if_neg (by omega), Option.bind_some, if_neg (by omega), w64s i (by omega)]
      obtain ⟨t, ht, hh⟩ := ih k (i + 1) (m - (x0[i].f2.length : Int)) (by omega) (by omega) (by omega) (by omega)
      refine ⟨t, ht, hh.imp id (fun h => ⟨h.1, by have h2 := h.2.1; rw [List.drop_eq_getElem_cons hil, List.map_cons, List.sum_cons]; omega, fun j hj hjl => ?_⟩)⟩
      by_cases e : j = i
      · subst e; omega
      · exact h.2.2 j (by omega) hjl
theorem szE_f (l : List S130) (m : Int) (h0 : 0 ≤ m) (hm : m ≤ 1048576) (hl : l.length ≤ 9223372036854775807) (hin : ∀ x ∈ l, x.f2.length ≤ 9223372036854775807) (k : Nat) (hk : 1048576 < k) : ∃ t, laws_szENodeS.f k l m = some t ∧ (t < 0 ∨ (0 ≤ t ∧ t ≤ 1048576 ∧ l.length ≤ 1048576 ∧ (∀ x ∈ l, x.f2.length ≤ 1048576) ∧ (l.map fun x => x.f2.length).sum ≤ 1048576)) := by
  unfold laws_szENodeS.f
  have e : wrap64 (m - (l.length : Int)) = m - (l.length : Int) := by unfold wrap64; omega
  rw [e]
  by_cases h : m - (l.length : Int) < 0
  · rw [if_pos h]; exact ⟨_, rfl, .inl (by omega)⟩
  · rw [if_neg h]
    obtain ⟨t, ht, hh⟩ := szE_run l (by omega) hin l.length k 0 (m - (l.length : Int)) (by omega) (by omega) (by omega) (by omega)
    refine ⟨t, ht, hh.imp id (fun h => ?_)⟩
    have h2 := h.2.1
    rw [List.drop_zero] at h2
    refine ⟨h.1, by omega, by omega, fun x hx => ?_, by omega⟩
    obtain ⟨j, hj, rfl⟩ := List.getElem_of_mem hx
    exact h.2.2 j (Nat.zero_le _) hj
theorem toE_run (x0 : List S130) (hn : x0.length ≤ 1048576) (hin : ∀ x ∈ x0, x.f2.length ≤ 1048576) (d : Nat) : ∀ (k i : Nat) (x3 : List S114), i + d = x0.length → x3.length = x0.length → (∀ j, j < i → x3[j]? = (x0.map cvE)[j]?) → d + 1048577 < k →
    laws_toENodeS.l0 k x0 x3 (i : Int) = some (x0.map cvE) := by
  induction d with
  | zero =>
    intro k i x3 hi hl hj hk
    obtain ⟨k, rfl⟩ : ∃ m, k = m + 1 := ⟨k - 1, by omega⟩
    simp only [laws_toENodeS.l0]
    rw [if_neg (by omega)]
    congr 1
    apply List.ext_getElem?
    intro j
    by_cases h : j < i
    · exact hj j h
    · rw [List.getElem?_eq_none (by omega), List.getElem?_eq_none (by rw [List.length_map]; omega)]
  | succ d ih =>
    intro k i x3 hi hl hj hk
    obtain ⟨k, rfl⟩ : ∃ m, k = m + 1 := ⟨k - 1, by omega⟩
    have hil : i < x0.length := by omega
    have hx := hin _ (List.getElem_mem hil)
    simp only [laws_toENodeS.l0]
    rw [if_pos (by omega), if_pos (by omega), rdLE_nat _ i hil]
    unfold laws_toENode.f
    rw [laws_toIntS_f _ hx k (by omega), Option.bind_some, Option.bind_some, if_pos (by omega), w64s i (by omega)]
    refine ih k (i + 1) _ (by omega) (by simpa using hl) ?_ (by omega)
    intro j hji
    rw [Int.toNat_natCast, List.getElem?_set]
    by_cases h : i = j
    · subst h
      rw [if_pos rfl, if_pos (by omega), List.getElem?_map, List.getElem?_eq_getElem hil]
      rfl
    · rw [if_neg h]
      exact hj j (by omega)
theorem toE_f (l : List S130) (hn : l.length ≤ 1048576) (hin : ∀ x ∈ l, x.f2.length ≤ 1048576) (k : Nat) (hk : 2097160 < k) : laws_toENodeS.f k l = some (l.map cvE) := by
  unfold laws_toENodeS.f
  rw [if_pos (by omega), if_pos (by omega)]
  exact toE_run l hn hin l.length k 0 _ (by omega) (by simp) (fun j hj => by omega) (by omega)
theorem eqE_run (x0 : List S114) (hn : x0.length ≤ 1048576) (hin : ∀ x ∈ x0, x.f2.length ≤ 1048576) (d : Nat) : ∀ (k i : Nat), i + d = x0.length → d + 1048577 < k → laws_eqENodeS.l0 k x0 x0 (i : Int) = some true := by
  induction d with
  | zero =>
    intro k i hi hk
    obtain ⟨k, rfl⟩ : ∃ m, k = m + 1 := ⟨k - 1, by omega⟩
    simp only [laws_eqENodeS.l0]
    rw [if_neg (by omega)]
  | succ d ih =>
    intro k i hi hk
    obtain ⟨k, rfl⟩ : ∃ m, k = m + 1 := ⟨k - 1, by omega⟩
    have hil : i < x0.length := by omega
    have hx := hin _ (List.getElem_mem hil)
    simp only [laws_eqENodeS.l0]
    rw [if_pos (by omega), if_pos (by omega), if_pos (by omega), rdE_nat _ i hil]
    unfold laws_eqENode.f
    rw [laws_eqIntS_f _ (by omega) k (by omega), if_pos rfl, if_pos rfl, Option.bind_some, if_pos rfl, Option.bind_some, if_pos rfl, w64s i (by omega)]
    exact ih k (i + 1) (by omega) (by omega)
theorem eqE_f (l : List S114) (hn : l.length ≤ 1048576) (hin : ∀ x ∈ l, x.f2.length ≤ 1048576) (k : Nat) (hk : 2097160 < k) : laws_eqENodeS.f k l l = some true := by
  unfold laws_eqENodeS.f
  rw [if_pos rfl]
  exact eqE_run l hn hin l.length k 0 (by omega) (by omega)
theorem cvE_len (l : List S130) (hin : ∀ x ∈ l, x.f2.length ≤ 1048576) : ∀ x ∈ l.map cvE, x.f2.length ≤ 1048576 := fun x hx => by
  obtain ⟨y, hy, rfl⟩ := List.mem_map.1 hx
  exact hin y hy

theorem szG_f (n : List S130) (p : List Int) (m : Int) (h0 : 0 ≤ m) (hm : m ≤ 1048576) (hl : n.length ≤ 9223372036854775807) (hin : ∀ x ∈ n, x.f2.length ≤ 9223372036854775807) (hp : p.length ≤ 9223372036854775807) (k : Nat) (hk : 1048576 < k) : ∃ t, laws_szEGraph.f k n p m = some t ∧ (t < 0 ∨ (0 ≤ t ∧ t ≤ 1048576 ∧ n.length ≤ 1048576 ∧ (∀ x ∈ n, x.f2.length ≤ 1048576) ∧ p.length ≤ 1048576 ∧ (n.map fun x => x.f2.length).sum ≤ 1048576)) := by
  unfold laws_szEGraph.f
  obtain ⟨t, ht, hh⟩ := szE_f n m h0 hm hl hin k hk
  rw [ht, Option.bind_some]
  by_cases h : t < 0
  · rw [if_pos h]; exact ⟨_, rfl, .inl (by omega)⟩
  · obtain ⟨a, b, c, d, e⟩ := hh.resolve_left h
    rw [if_neg h, szI_f p t a b hp, Option.bind_some]
    by_cases h' : t - (p.length : Int) < 0
    · rw [if_pos h', if_pos (by omega)]; exact ⟨_, rfl, .inl (by omega)⟩
    · rw [if_neg h', if_neg h']; exact ⟨_, rfl, .inr ⟨by omega, by omega, c, d, by omega, e⟩⟩
theorem toG_f (n : List S130) (p : List Int) (hn : n.length ≤ 1048576) (hin : ∀ x ∈ n, x.f2.length ≤ 1048576) (hp : p.length ≤ 1048576) (k : Nat) (hk : 2097160 < k) : laws_toEGraph.f k n p = some (n.map cvE, p) := by
  unfold laws_toEGraph.f
  rw [toE_f n hn hin k hk, Option.bind_some, laws_toIntS_f p hp k (by omega)]
  rfl
theorem eqG_f (n : List S114) (p : List Int) (hn : n.length ≤ 1048576) (hin : ∀ x ∈ n, x.f2.length ≤ 1048576) (hp : p.length ≤ 1048576) (k : Nat) (hk : 2097160 < k) : laws_eqEGraph.f k n p n p = some true := by
  unfold laws_eqEGraph.f
  rw [eqE_f n hn hin k hk, Option.bind_some, if_pos rfl, laws_eqIntS_f p (by omega) k (by omega)]
  rfl

/-- A test at d places from i on. -/
def allB (p : Nat → Bool) : Nat → Nat → Bool
  | _, 0 => true
  | i, d + 1 => p i && allB p (i + 1) d
theorem allB_iff (p : Nat → Bool) (d : Nat) : ∀ i, allB p i d = true ↔ ∀ j, i ≤ j → j < i + d → p j = true := by
  induction d with
  | zero => intro i; exact ⟨fun _ j h1 h2 => by omega, fun _ => rfl⟩
  | succ d ih =>
    intro i
    simp only [allB, Bool.and_eq_true, ih (i + 1)]
    constructor
    · intro h j h1 h2
      by_cases e : j = i
      · subst e; exact h.1
      · exact h.2 j (by omega) (by omega)
    · intro h
      exact ⟨h i (Nat.le_refl _) (by omega), fun j h1 h2 => h j (by omega) (by omega)⟩
theorem allB_congr {p q : Nat → Bool} (d : Nat) : ∀ i, (∀ j, i ≤ j → j < i + d → p j = q j) → allB p i d = allB q i d := by
  induction d with
  | zero => intro i _; rfl
  | succ d ih =>
    intro i h
    simp only [allB]
    rw [h i (Nat.le_refl _) (by omega), ih (i + 1) (fun j h1 h2 => h j (by omega) (by omega))]

/-- A node is right, its kids below a number. -/
def enOK (x : S114) (k : Nat) : Bool := (Tree.numOK x.f0 x.f1 && ((x.f2.length : Int) == Tree.arity x.f0)) && x.f2.all fun c => decide (0 ≤ c ∧ c < (k : Int))
def loose (l : List S114) : Bool := allB (fun i => enOK (l.getD i z114) i) 0 l.length && decide (l.length ≤ 120)
theorem rdE_getD (l : List S114) (i : Nat) : rd_T114 l (i : Int) = l.getD i z114 := by unfold rd_T114; rw [Int.toNat_natCast]
theorem outB_eq (kids : List Int) (k : Nat) (hk : k ≤ 1048576) : (!outB kids (k : Int)) = kids.all fun c => decide (0 ≤ c ∧ c < (k : Int)) := by
  unfold outB
  have e : wrap64 ((k : Int) - 1) = (k : Int) - 1 := by unfold wrap64; omega
  rw [e]
  induction kids with
  | nil => rfl
  | cons x t ih =>
    rw [List.any_cons, List.all_cons, ← ih, Bool.not_or, Bool.not_not]
    congr 1
    rw [decide_eq_decide]; omega
theorem enodeOK_f (x : S114) (k : Nat) (hk : k ≤ 1048576) : impl_enodeOK.f x.f0 x.f1 x.f2 (k : Int) = some (enOK x k) := by
  unfold impl_enodeOK.f enOK
  rw [outB_eq _ k hk, Bool.and_assoc]
theorem looseOK_run (l : List S114) (hl : l.length ≤ 1048576) (d : Nat) : ∀ (k i : Nat), i + d = l.length → d < k →
    impl_looseOK.l0 k l l (l.length : Int) (i : Int) = some (allB (fun i => enOK (l.getD i z114) i) i d && decide (l.length ≤ 120)) := by
  induction d with
  | zero =>
    intro k i hi hk
    obtain ⟨k, rfl⟩ : ∃ m, k = m + 1 := ⟨k - 1, by omega⟩
    simp only [impl_looseOK.l0, allB]
    rw [if_neg (by omega), Bool.true_and]
    congr 1
    rw [decide_eq_decide]; omega
  | succ d ih =>
    intro k i hi hk
    obtain ⟨k, rfl⟩ : ∃ m, k = m + 1 := ⟨k - 1, by omega⟩
    simp only [impl_looseOK.l0, allB]
    rw [if_pos (by omega), if_pos (by omega), if_pos (by omega), rdE_getD, enodeOK_f _ i (by omega), Option.bind_some, w64s i (by omega), ih k (i + 1) (by omega) (by omega)]
    cases enOK (l.getD i z114) i <;> rfl
theorem looseOK_f (l : List S114) (hl : l.length ≤ 1048576) (k : Nat) (hk : l.length < k) : impl_looseOK.f k l = some (loose l) := by
  unfold impl_looseOK.f loose
  exact looseOK_run l hl l.length k 0 (by omega) hk
theorem specArity_f (k : Nat) (hk : 0 < k) (op : Int) : spec_l1Arity.f k op = some (if 1 ≤ op ∧ op ≤ 11 then Tree.arity op else -1) := by
  obtain ⟨k, rfl⟩ : ∃ m, k = m + 1 := ⟨k - 1, by omega⟩
  unfold spec_l1Arity.f Tree.arity
  by_cases h1 : op = 1
  · subst h1; rfl
  · rw [if_neg h1]
    by_cases h2 : op = 2
    · subst h2; rfl
    · rw [if_neg (by omega : ¬ (op = 1 ∨ op = 2))]
      simp only [spec_l1Arity.j0]
      rw [if_neg (by simpa using h2)]
      by_cases h3 : op = 3
      · subst h3; rfl
      · rw [if_neg h3, if_neg h3]
        by_cases h4 : op = 11
        · subst h4; rfl
        · rw [if_neg h4, if_neg h4]
          unfold spec_l1In.f
          by_cases h5 : op ≥ 4
          · by_cases h6 : op ≤ 10
            · rw [if_pos h5, Option.bind_some, decide_eq_true h6, if_pos rfl, if_pos (by omega)]
            · rw [if_pos h5, Option.bind_some, decide_eq_false h6, if_neg (by simp), if_neg (by omega)]
          · rw [if_neg h5, Option.bind_some, if_neg (by simp), if_neg (by omega)]
theorem l6Node_f (op n : Int) (kids : List Int) (k : Nat) (hk : 0 < k) : spec_l6Node.f k op n kids = some (Tree.numOK op n && ((kids.length : Int) == Tree.arity op)) := by
  unfold spec_l6Node.f
  rw [specArity_f k hk, Option.bind_some]
  obtain ⟨k, rfl⟩ : ∃ m, k = m + 1 := ⟨k - 1, by omega⟩
  have hr := Tree.arity_range op
  by_cases hop : 1 ≤ op ∧ op ≤ 11
  · rw [if_pos hop, if_neg (by omega)]
    simp only [spec_l6Node.j0]
    by_cases hl : (kids.length : Int) = Tree.arity op
    · rw [bne_eq_false_iff_eq.2 hl, if_neg (by simp), beq_iff_eq.2 hl, Bool.and_true]
      unfold Tree.numOK
      by_cases h1 : op = 1
      · rw [if_pos h1, if_pos h1]
      · rw [if_neg h1, if_neg h1]
        by_cases h2 : op = 2
        · rw [if_pos h2, if_pos h2]
          by_cases h3 : n ≥ 0
          · rw [if_pos h3]; congr 1; rw [decide_eq_decide]; omega
          · rw [if_neg h3, decide_eq_false (by omega)]
        · rw [if_neg h2, if_neg h2]
          congr 1
          rw [Bool.eq_iff_iff]; simp; omega
    · rw [bne_iff_ne.2 hl, if_pos rfl, beq_eq_false_iff_ne.2 hl, Bool.and_false]
  · rw [if_neg hop, if_pos (by omega)]
    simp only [spec_l6Node.j0]
    rw [if_pos trivial]
    unfold Tree.numOK
    rw [if_neg (by omega), if_neg (by omega), decide_eq_false (by omega), Bool.false_and]
theorem l1In_f (a b c : Int) : spec_l1In.f a b c = some (decide (b ≤ a ∧ a ≤ c)) := by
  unfold spec_l1In.f
  by_cases h : a ≥ b
  · rw [if_pos h]; congr 1; rw [decide_eq_decide]; omega
  · rw [if_neg h, decide_eq_false (by omega)]
theorem l1All_run (l : List Int) (lo hi : Int) (hl : l.length ≤ 1048576) (d : Nat) : ∀ (k i : Nat), i + d = l.length → d < k → spec_l1All.l0 k lo hi l (l.length : Int) (i : Int) = some ((l.drop i).all fun c => decide (lo ≤ c ∧ c ≤ hi)) := by
  induction d with
  | zero =>
    intro k i hi' hk
    obtain ⟨k, rfl⟩ : ∃ m, k = m + 1 := ⟨k - 1, by omega⟩
    simp only [spec_l1All.l0]
    rw [if_neg (by omega), List.drop_of_length_le (by omega)]
    rfl
  | succ d ih =>
    intro k i hi' hk
    obtain ⟨k, rfl⟩ : ∃ m, k = m + 1 := ⟨k - 1, by omega⟩
    have hil : i < l.length := by omega
    simp only [spec_l1All.l0]
    rw [if_pos (by omega), if_pos (by omega), if_pos (by omega), l1In_f, Option.bind_some, w64s i (by omega), ih k (i + 1) (by omega) (by omega), List.drop_eq_getElem_cons hil, List.all_cons, rd_nat, getD_lt l i hil]
    cases decide (lo ≤ l[i] ∧ l[i] ≤ hi) <;> rfl
theorem l1All_f (l : List Int) (lo hi : Int) (hl : l.length ≤ 1048576) (k : Nat) (hk : l.length < k) : spec_l1All.f k l lo hi = some (l.all fun c => decide (lo ≤ c ∧ c ≤ hi)) := by
  unfold spec_l1All.f
  have := l1All_run l lo hi hl l.length k 0 (by omega) hk
  rw [List.drop_zero] at this
  exact this
theorem l6Nodes_run (l : List S114) (hl : l.length ≤ 1048576) (hin : ∀ x ∈ l, x.f2.length ≤ 1048576) (d : Nat) : ∀ (k i : Nat), i + d = l.length → d + 1048577 < k →
    spec_l6Nodes.l0 k l (l.length : Int) (i : Int) = some (allB (fun i => enOK (l.getD i z114) i) i d) := by
  induction d with
  | zero =>
    intro k i hi hk
    obtain ⟨k, rfl⟩ : ∃ m, k = m + 1 := ⟨k - 1, by omega⟩
    simp only [spec_l6Nodes.l0, allB]
    rw [if_neg (by omega)]
  | succ d ih =>
    intro k i hi hk
    obtain ⟨k, rfl⟩ : ∃ m, k = m + 1 := ⟨k - 1, by omega⟩
    have hil : i < l.length := by omega
    have hx : (l.getD i z114).f2.length ≤ 1048576 := by
      rw [List.getD_eq_getElem?_getD, List.getElem?_eq_getElem hil]
      exact hin _ (List.getElem_mem hil)
    have e : wrap64 ((i : Int) - 1) = (i : Int) - 1 := by unfold wrap64; omega
    simp only [spec_l6Nodes.l0, allB]
    rw [if_pos (by omega), if_pos (by omega), if_pos (by omega), rdE_getD, l6Node_f _ _ _ k (by omega), Option.bind_some, w64s i (by omega), ih k (i + 1) (by omega) (by omega), e, l1All_f _ _ _ hx k (by omega)]
    have e2 : (fun c : Int => decide (0 ≤ c ∧ c ≤ (i : Int) - 1)) = fun c => decide (0 ≤ c ∧ c < (i : Int)) := by
      funext c; rw [decide_eq_decide]; omega
    rw [e2]
    unfold enOK
    generalize l.getD i z114 = x
    cases (Tree.numOK x.f0 x.f1 && ((x.f2.length : Int) == Tree.arity x.f0)) with
    | false => rfl
    | true =>
      rw [if_pos rfl, Option.bind_some]
      cases (x.f2.all fun c => decide (0 ≤ c ∧ c < (i : Int))) <;> rfl
theorem l6Nodes_f (l : List S114) (hl : l.length ≤ 1048576) (hin : ∀ x ∈ l, x.f2.length ≤ 1048576) (k : Nat) (hk : 2097160 < k) : spec_l6Nodes.f k l = some (loose l) := by
  unfold spec_l6Nodes.f loose
  by_cases h : (l.length : Int) > 120
  · rw [if_pos h, decide_eq_false (by omega), Bool.and_false]
  · rw [if_neg h, decide_eq_true (by omega), Bool.and_true]
    exact l6Nodes_run l hl hin l.length k 0 (by omega) (by omega)
theorem loose_at {l : List S114} (h : loose l = true) (i : Nat) (hi : i < l.length) : enOK (l.getD i z114) i = true := by
  unfold loose at h
  rw [Bool.and_eq_true, allB_iff] at h
  exact h.1 i (Nat.zero_le _) (by omega)
theorem loose_len {l : List S114} (h : loose l = true) : l.length ≤ 120 := by
  unfold loose at h
  rw [Bool.and_eq_true] at h
  exact of_decide_eq_true h.2
theorem enOK_kids {x : S114} {k : Nat} (h : enOK x k = true) : x.f2.length ≤ 3 ∧ ∀ c ∈ x.f2, 0 ≤ c ∧ c < (k : Int) := by
  unfold enOK at h
  simp only [Bool.and_eq_true, beq_iff_eq, List.all_eq_true, decide_eq_true_eq] at h
  have := Tree.arity_range x.f0
  exact ⟨by omega, h.2⟩
/-- Two nodes are the same. -/
def sameE (x y : S114) : Bool := (x.f0 == y.f0 && x.f1 == y.f1) && x.f2 == y.f2
theorem l1Same_run (a b : List Int) (hab : a.length = b.length) (hl : a.length ≤ 1048576) (d : Nat) : ∀ (k i : Nat), i + d = a.length → d < k → spec_l1Same.l0 k a b (a.length : Int) (i : Int) = some (a.drop i == b.drop i) := by
  induction d with
  | zero =>
    intro k i hi hk
    obtain ⟨k, rfl⟩ : ∃ m, k = m + 1 := ⟨k - 1, by omega⟩
    simp only [spec_l1Same.l0]
    rw [if_neg (by omega), List.drop_of_length_le (by omega), List.drop_of_length_le (by omega)]
    rfl
  | succ d ih =>
    intro k i hi hk
    obtain ⟨k, rfl⟩ : ∃ m, k = m + 1 := ⟨k - 1, by omega⟩
    have ha : i < a.length := by omega
    have hb : i < b.length := by omega
    simp only [spec_l1Same.l0]
    rw [if_pos (by omega), if_pos (by omega), if_pos (by omega), if_pos (by omega), rd_nat, rd_nat, getD_lt a i ha, getD_lt b i hb, w64s i (by omega), ih k (i + 1) (by omega) (by omega), List.drop_eq_getElem_cons ha, List.drop_eq_getElem_cons hb]
    by_cases h : a[i] = b[i]
    · rw [if_pos h, h]; congr 1; rw [Bool.eq_iff_iff, beq_iff_eq, beq_iff_eq]; exact ⟨fun e => by rw [e], fun e => (List.cons.inj e).2⟩
    · rw [if_neg h]; congr 1; symm; rw [beq_eq_false_iff_ne]; intro e; exact h (List.cons.inj e).1
theorem l1Same_f (a b : List Int) (hl : a.length ≤ 1048576) (k : Nat) (hk : a.length < k) : spec_l1Same.f k a b = some (a == b) := by
  unfold spec_l1Same.f
  by_cases h : a.length = b.length
  · rw [if_pos (by omega)]
    have := l1Same_run a b h hl a.length k 0 (by omega) hk
    rw [List.drop_zero, List.drop_zero] at this
    exact this
  · rw [if_neg (by omega)]; congr 1; symm; rw [beq_eq_false_iff_ne]; intro e; exact h (by rw [e])
theorem Equal_eq : ∀ (k : Nat) (a b : List Int) (c d : Int), slices_Equal_int_int.l0 k a b c d = spec_l1Same.l0 k a b c d := by
  intro k
  induction k with
  | zero => intros; rfl
  | succ k ih => intro a b c d; simp only [slices_Equal_int_int.l0, spec_l1Same.l0, ih]
theorem Equal_f (a b : List Int) (hl : a.length ≤ 1048576) (k : Nat) (hk : a.length < k) : slices_Equal_int_int.f k a b = some (a == b) := by
  have := l1Same_f a b hl k hk
  unfold spec_l1Same.f at this
  unfold slices_Equal_int_int.f
  rw [Equal_eq]
  exact this
theorem specAlike_f (x y : S114) (hl : x.f2.length ≤ 1048576) (k : Nat) (hk : x.f2.length < k) : spec_l6Alike.f k x.f0 x.f1 x.f2 y.f0 y.f1 y.f2 = some (sameE x y) := by
  unfold spec_l6Alike.f sameE
  rw [l1Same_f _ _ hl k hk]
  by_cases h0 : x.f0 = y.f0
  · rw [if_pos h0, beq_iff_eq.2 h0]
    by_cases h1 : x.f1 = y.f1
    · rw [if_pos h1, beq_iff_eq.2 h1]; rfl
    · rw [if_neg h1, beq_eq_false_iff_ne.2 h1]; rfl
  · rw [if_neg h0, beq_eq_false_iff_ne.2 h0]; rfl
theorem implAlike_f (x y : S114) (hl : x.f2.length ≤ 1048576) (k : Nat) (hk : x.f2.length < k) : impl_alike.f k x.f0 x.f1 x.f2 y.f0 y.f1 y.f2 = some (sameE x y) := by
  unfold impl_alike.f sameE
  rw [Equal_f _ _ hl k hk]
  by_cases h0 : x.f0 = y.f0
  · rw [if_pos h0, beq_iff_eq.2 h0]
    by_cases h1 : x.f1 = y.f1
    · rw [if_pos h1, beq_iff_eq.2 h1]; rfl
    · rw [if_neg h1, beq_eq_false_iff_ne.2 h1]; rfl
  · rw [if_neg h0, beq_eq_false_iff_ne.2 h0]; rfl
/-- What a graph must obey at a node. -/
def pairOK (nodes : List S114) (parts : List Int) (j i : Nat) : Bool := !(sameE (nodes.getD j z114) (nodes.getD i z114)) || (parts.getD i 0 == parts.getD j 0)
def bodyOK (nodes : List S114) (parts : List Int) (j : Nat) : Bool := ((nodes.getD j z114).f2.all fun c => rd parts c == c) && allB (pairOK nodes parts j) 0 j
def goodG (nodes : List S114) (parts : List Int) : Bool := ((decide (parts.length = nodes.length) && loose nodes) && okParts parts) && allB (bodyOK nodes parts) 0 nodes.length
theorem specGG_l2 (nodes : List S114) (parts : List Int) (hlen : parts.length = nodes.length) (hn : nodes.length ≤ 120) (j : Nat) (hj : j < nodes.length) (x : S114) (hxj : nodes.getD j z114 = x) (hx : x.f2.length ≤ 3) (d : Nat) : ∀ (k i : Nat), i + d = j → 3 < k →
    spec_GoodGraph.l2 (k + d + 1) (j : Int) (i : Int) nodes (nodes.length : Int) (j : Int) nodes parts x.f0 x.f1 x.f2 = if allB (pairOK nodes parts j) i d = true then spec_GoodGraph.l0 k nodes (nodes.length : Int) ((j + 1 : Nat) : Int) nodes parts else some false := by
  induction d with
  | zero =>
    intro k i hi hk
    simp only [spec_GoodGraph.l2, allB]
    rw [if_neg (by omega), if_pos trivial, w64s j (by omega)]
  | succ d ih =>
    intro k i hi hk
    obtain ⟨K, hK⟩ : ∃ K, K = k + d + 1 := ⟨_, rfl⟩
    rw [show k + (d + 1) + 1 = K + 1 by omega]
    have ihh := ih k (i + 1) (by omega) hk
    rw [← hK] at ihh
    simp only [spec_GoodGraph.l2]
    rw [if_pos (by omega), if_pos (by omega), if_pos (by omega), rdE_getD, specAlike_f x _ (by omega) K (by omega), Option.bind_some, w64s i (by omega), ihh, rd_nat, rd_nat]
    have hp : pairOK nodes parts j i = (!(sameE x (nodes.getD i z114)) || (parts.getD i 0 == parts.getD j 0)) := by unfold pairOK; rw [hxj]
    have hab : allB (pairOK nodes parts j) i (d + 1) = (pairOK nodes parts j i && allB (pairOK nodes parts j) (i + 1) d) := rfl
    rw [hab, hp]
    cases sameE x (nodes.getD i z114) with
    | false => rw [if_neg (by simp)]; simp
    | true =>
      rw [if_pos rfl, if_pos (by omega), if_pos (by omega), if_pos (by omega)]
      by_cases h : parts.getD i 0 = parts.getD j 0
      · rw [if_pos h, beq_iff_eq.2 h]; simp
      · rw [if_neg h, beq_eq_false_iff_ne.2 h]; simp
theorem specGG_l1 (nodes : List S114) (parts : List Int) (j : Nat) (kids : List Int) (hkl : kids.length ≤ 3) (hin : ∀ c ∈ kids, 0 ≤ c ∧ c < (parts.length : Int)) (a b : Int) (d : Nat) : ∀ (k i : Nat), i + d = kids.length →
    spec_GoodGraph.l1 (k + d + 1) (j : Int) nodes (nodes.length : Int) (j : Int) kids (kids.length : Int) (i : Int) nodes parts a b kids = if ((kids.drop i).all fun c => rd parts c == c) = true then spec_GoodGraph.l2 k (j : Int) 0 nodes (nodes.length : Int) (j : Int) nodes parts a b kids else some false := by
  induction d with
  | zero =>
    intro k i hi
    simp only [spec_GoodGraph.l1]
    rw [if_neg (by omega), List.drop_of_length_le (by omega)]
    rfl
  | succ d ih =>
    intro k i hi
    have hil : i < kids.length := by omega
    have hc := hin _ (List.getElem_mem hil)
    obtain ⟨K, hK⟩ : ∃ K, K = k + d + 1 := ⟨_, rfl⟩
    rw [show k + (d + 1) + 1 = K + 1 by omega]
    have ihh := ih k (i + 1) (by omega)
    rw [← hK] at ihh
    simp only [spec_GoodGraph.l1]
    rw [if_pos (by omega), if_pos (by omega), if_pos (by omega), rd_nat, getD_lt kids i hil, if_pos hc.1, if_pos hc.2, w64s i (by omega), ihh, List.drop_eq_getElem_cons hil, List.all_cons]
    by_cases h : rd parts kids[i] = kids[i]
    · rw [if_pos h, beq_iff_eq.2 h, Bool.true_and]
    · rw [if_neg h, beq_eq_false_iff_ne.2 h, Bool.false_and]; rfl
theorem specGG_l0 (nodes : List S114) (parts : List Int) (hlen : parts.length = nodes.length) (hlo : loose nodes = true) (d : Nat) : ∀ (k i : Nat), i + d = nodes.length → 140 * d + 140 ≤ k →
    spec_GoodGraph.l0 k nodes (nodes.length : Int) (i : Int) nodes parts = some (allB (bodyOK nodes parts) i d) := by
  have hn := loose_len hlo
  induction d with
  | zero =>
    intro k i hi hk
    obtain ⟨k, rfl⟩ : ∃ m, k = m + 1 := ⟨k - 1, by omega⟩
    simp only [spec_GoodGraph.l0, allB]
    rw [if_neg (by omega)]
  | succ d ih =>
    intro k i hi hk
    have hil : i < nodes.length := by omega
    have hx := enOK_kids (loose_at hlo i hil)
    obtain ⟨x, hxe⟩ : ∃ x, nodes.getD i z114 = x := ⟨_, rfl⟩
    rw [hxe] at hx
    obtain ⟨k, rfl⟩ : ∃ m, k = ((m + i + 1) + x.f2.length + 1) + 1 := ⟨k - i - x.f2.length - 3, by omega⟩
    simp only [spec_GoodGraph.l0, allB]
    have h2 := specGG_l2 nodes parts hlen hn i hil x hxe hx.1 i k 0 (by omega) (by omega)
    rw [if_pos (by omega), if_pos (by omega), if_pos (by omega), rdE_getD, hxe]
    have h1 := specGG_l1 nodes parts i x.f2 hx.1 (fun c hc => by have := hx.2 c hc; omega) x.f0 x.f1 x.f2.length (k + i + 1) 0 (by omega)
    rw [List.drop_zero] at h1
    refine h1.trans ?_
    have hb : bodyOK nodes parts i = ((x.f2.all fun c => rd parts c == c) && allB (pairOK nodes parts i) 0 i) := by unfold bodyOK; rw [hxe]
    rw [hb]
    cases (x.f2.all fun c => rd parts c == c) with
    | false => rfl
    | true =>
      rw [if_pos rfl, Bool.true_and]
      refine h2.trans ?_
      cases allB (pairOK nodes parts i) 0 i with
      | false => rfl
      | true => rw [if_pos rfl, Bool.true_and]; exact ih k (i + 1) (by omega) (by omega)
theorem specGG_f (nodes : List S114) (parts : List Int) (hl : nodes.length ≤ 1048576) (hin : ∀ x ∈ nodes, x.f2.length ≤ 1048576) (hp : parts.length ≤ 1048576) (k : Nat) (hk : 2097161 < k) : spec_GoodGraph.f k nodes parts = some (goodG nodes parts) := by
  obtain ⟨k, rfl⟩ : ∃ m, k = m + 1 := ⟨k - 1, by omega⟩
  unfold spec_GoodGraph.f goodG
  rw [l6Nodes_f nodes hl hin (k + 1) (by omega), Option.bind_some]
  cases hlo : loose nodes with
  | false =>
    rw [if_neg (by simp), Bool.and_false, Bool.false_and, Bool.false_and]
    simp [spec_GoodGraph.j0]
  | true =>
    rw [if_pos rfl, Bool.and_true]
    by_cases hlen : parts.length = nodes.length
    · rw [if_pos (by omega), decide_eq_true hlen, Bool.true_and, spec_GoodParts_f parts (k + 1) (by omega), Option.bind_some]
      simp only [spec_GoodGraph.j0]
      cases okParts parts with
      | false => rfl
      | true =>
        have hn := loose_len hlo
        rw [if_neg (by simp), Bool.true_and]
        exact specGG_l0 nodes parts hlen hlo nodes.length k 0 (by omega) (by omega)
    · rw [if_neg (by omega), decide_eq_false hlen, Bool.false_and, Bool.false_and]
      simp [spec_GoodGraph.j0]
theorem VGG_f (kids parts : List Int) (hin : ∀ c ∈ kids, 0 ≤ c ∧ c < (parts.length : Int)) : VGG.f kids parts = some (!(kids.all fun c => rd parts c == c)) := by
  unfold VGG.f
  rw [if_pos (List.all_eq_true.2 fun c hc => decide_eq_true (hin c hc))]
  congr 1
  clear hin
  induction kids with
  | nil => rfl
  | cons c t ih => rw [List.any_cons, List.all_cons, ih, Bool.not_and]; rfl
theorem implGG_l1 (nodes : List S114) (parts : List Int) (hlen : parts.length = nodes.length) (hn : nodes.length ≤ 120) (j : Nat) (hj : j < nodes.length) (x : S114) (hxj : nodes.getD j z114 = x) (hx : x.f2.length ≤ 3) (d : Nat) : ∀ (k i : Nat), i + d = j → 3 < k →
    impl_GoodGraph.l1 (k + d + 1) (j : Int) nodes (nodes.length : Int) (j : Int) (nodes.take j) ((nodes.take j).length : Int) (i : Int) nodes parts x.f0 x.f1 x.f2 = if allB (pairOK nodes parts j) i d = true then impl_GoodGraph.l0 k nodes (nodes.length : Int) ((j + 1 : Nat) : Int) nodes parts else some false := by
  have htl : (nodes.take j).length = j := by rw [List.length_take]; omega
  induction d with
  | zero =>
    intro k i hi hk
    simp only [impl_GoodGraph.l1, allB]
    rw [if_neg (by omega), if_pos trivial, w64s j (by omega)]
  | succ d ih =>
    intro k i hi hk
    obtain ⟨K, hK⟩ : ∃ K, K = k + d + 1 := ⟨_, rfl⟩
    rw [show k + (d + 1) + 1 = K + 1 by omega]
    have ihh := ih k (i + 1) (by omega) hk
    rw [← hK] at ihh
    have htk : (nodes.take j).getD i z114 = nodes.getD i z114 := by
      rw [List.getD_eq_getElem?_getD, List.getD_eq_getElem?_getD, List.getElem?_take, if_pos (by omega)]
    simp only [impl_GoodGraph.l1]
    rw [if_pos (by omega), if_pos (by omega), if_pos (by omega), if_pos (by omega), if_pos (by omega), if_pos (by omega), rdE_getD, htk, implAlike_f x _ (by omega) K (by omega), Option.bind_some, w64s i (by omega), ihh, rd_nat, rd_nat]
    have hp : pairOK nodes parts j i = (!(sameE x (nodes.getD i z114)) || (parts.getD i 0 == parts.getD j 0)) := by unfold pairOK; rw [hxj]
    have hab : allB (pairOK nodes parts j) i (d + 1) = (pairOK nodes parts j i && allB (pairOK nodes parts j) (i + 1) d) := rfl
    rw [hab, hp]
    by_cases h : parts.getD i 0 = parts.getD j 0
    · rw [if_pos h, beq_iff_eq.2 h]; simp
    · rw [if_neg h, beq_eq_false_iff_ne.2 h]
      cases sameE x (nodes.getD i z114) <;> simp
theorem implGG_l0 (nodes : List S114) (parts : List Int) (hlen : parts.length = nodes.length) (hlo : loose nodes = true) (d : Nat) : ∀ (k i : Nat), i + d = nodes.length → 140 * d + 140 ≤ k →
    impl_GoodGraph.l0 k nodes (nodes.length : Int) (i : Int) nodes parts = some (allB (bodyOK nodes parts) i d) := by
  have hn := loose_len hlo
  induction d with
  | zero =>
    intro k i hi hk
    obtain ⟨k, rfl⟩ : ∃ m, k = m + 1 := ⟨k - 1, by omega⟩
    simp only [impl_GoodGraph.l0, allB]
    rw [if_neg (by omega)]
  | succ d ih =>
    intro k i hi hk
    have hil : i < nodes.length := by omega
    have hx := enOK_kids (loose_at hlo i hil)
    obtain ⟨x, hxe⟩ : ∃ x, nodes.getD i z114 = x := ⟨_, rfl⟩
    rw [hxe] at hx
    obtain ⟨k, rfl⟩ : ∃ m, k = (m + i + 1) + 1 := ⟨k - i - 2, by omega⟩
    simp only [impl_GoodGraph.l0, allB]
    have h2 := implGG_l1 nodes parts hlen hn i hil x hxe hx.1 i k 0 (by omega) (by omega)
    rw [if_pos (by omega), if_pos (by omega), if_pos (by omega), rdE_getD, hxe, VGG_f x.f2 parts (fun c hc => by have := hx.2 c hc; omega), Option.bind_some]
    have hb : bodyOK nodes parts i = ((x.f2.all fun c => rd parts c == c) && allB (pairOK nodes parts i) 0 i) := by unfold bodyOK; rw [hxe]
    rw [hb]
    cases (x.f2.all fun c => rd parts c == c) with
    | false => rfl
    | true =>
      rw [if_neg (by simp), if_pos (by omega), Option.bind_some, Bool.true_and, Int.toNat_natCast]
      refine h2.trans ?_
      cases allB (pairOK nodes parts i) 0 i with
      | false => rfl
      | true => rw [if_pos rfl, Bool.true_and]; exact ih k (i + 1) (by omega) (by omega)
theorem implGG_f (nodes : List S114) (parts : List Int) (hl : nodes.length ≤ 1048576) (hp : parts.length ≤ 1048576) (k : Nat) (hk : 2097161 < k) : impl_GoodGraph.f k nodes parts = some (goodG nodes parts) := by
  obtain ⟨k, rfl⟩ : ∃ m, k = m + 1 := ⟨k - 1, by omega⟩
  unfold impl_GoodGraph.f goodG
  by_cases hlen : parts.length = nodes.length
  · rw [if_pos (by omega), decide_eq_true hlen, Bool.true_and, looseOK_f nodes hl (k + 1) (by omega), Option.bind_some]
    cases hlo : loose nodes with
    | false =>
      rw [if_neg (by simp), Bool.false_and, Bool.false_and]
      simp [impl_GoodGraph.j0]
    | true =>
      rw [if_pos rfl, Bool.true_and, impl_GoodParts_f parts (by omega) (k + 1) (by omega), Option.bind_some]
      simp only [impl_GoodGraph.j0]
      cases okParts parts with
      | false => rfl
      | true =>
        have hn := loose_len hlo
        rw [if_neg (by simp), Bool.true_and]
        exact implGG_l0 nodes parts hlen hlo nodes.length k 0 (by omega) (by omega)
  · rw [if_neg (by omega), decide_eq_false hlen, Bool.false_and, Bool.false_and, Bool.false_and]
    simp [impl_GoodGraph.j0]

theorem enW_cv (n : List S130) (hn : n.length ≤ 1048576) (hs : (n.map fun x => x.f2.length).sum ≤ 1048576) : enW (n.map cvE) ≤ 3145728 := by
  have h : enW (n.map cvE) = (n.map fun x => x.f2.length).sum + 2 * n.length := by
    clear hn hs
    unfold enW
    induction n with
    | nil => rfl
    | cons x t ih =>
      simp only [List.map_cons, List.sum_cons, List.length_cons] at ih ⊢
      rw [ih]
      show x.f2.length + 2 + _ = _
      omega
  omega

theorem gg_len {n : List S114} {p : List Int} (h : goodG n p = true) : p.length = n.length ∧ n.length ≤ 120 := by
  unfold goodG at h
  simp only [Bool.and_eq_true, decide_eq_true_eq] at h
  exact ⟨h.1.1.1, loose_len h.1.1.2⟩
theorem gg_kids {n : List S114} {p : List Int} (h : goodG n p = true) (k : Nat) (hk : k < n.length) : (n.getD k z114).f2.length ≤ 3 ∧ ∀ c ∈ (n.getD k z114).f2, 0 ≤ c ∧ c < (k : Int) ∧ rd p c = c := by
  unfold goodG at h
  simp only [Bool.and_eq_true, decide_eq_true_eq] at h
  have h1 := enOK_kids (loose_at h.1.1.2 k hk)
  have h2 := (allB_iff _ _ _).1 h.2 k (Nat.zero_le _) (by omega)
  unfold bodyOK at h2
  rw [Bool.and_eq_true] at h2
  exact ⟨h1.1, fun c hc => ⟨(h1.2 c hc).1, (h1.2 c hc).2, beq_iff_eq.1 (List.all_eq_true.1 h2.1 c hc)⟩⟩
theorem gg_par {n : List S114} {p : List Int} (h : goodG n p = true) (k : Nat) (hk : k < n.length) : goodAt p k := by
  have hl := (gg_len h).1
  unfold goodG at h
  simp only [Bool.and_eq_true, decide_eq_true_eq] at h
  exact (of_decide_eq_true h.1.2).1 k (by omega)

/-- What an op costs. -/
def costN (op : Int) : Int := if op = 1 ∨ op = 2 then 1 else if op = 11 then 3 else if op = 6 then 4 else if op = 8 then 20 else 2
theorem costN_pos (op : Int) : 1 ≤ costN op ∧ costN op ≤ 20 := by
  unfold costN
  split
  · omega
  · split
    · omega
    · split
      · omega
      · split <;> omega
theorem implCost_f (op : Int) (k : Nat) (hk : 0 < k) : impl_cost.f k op = some (costN op) := by
  obtain ⟨k, rfl⟩ : ∃ m, k = m + 1 := ⟨k - 1, by omega⟩
  unfold impl_cost.f costN
  by_cases h1 : op = 1
  · subst h1; rfl
  · rw [if_neg h1]
    simp only [impl_cost.j0]
    by_cases h2 : op = 2
    · subst h2; rfl
    · rw [if_neg (by simpa using h2), if_neg (by omega : ¬ (op = 1 ∨ op = 2))]
      split
      · rfl
      · split
        · rfl
        · split <;> rfl
theorem specOp_f (op : Int) (k : Nat) (hk : 0 < k) : spec_l10Op.f k op = some (costN op) := by
  obtain ⟨k, rfl⟩ : ∃ m, k = m + 1 := ⟨k - 1, by omega⟩
  unfold spec_l10Op.f costN
  by_cases h1 : op = 1
  · subst h1; rfl
  · rw [if_neg h1]
    simp only [spec_l10Op.j0]
    by_cases h2 : op = 2
    · subst h2; rfl
    · rw [if_neg (by simpa using h2), if_neg (by omega : ¬ (op = 1 ∨ op = 2))]
      split
      · rfl
      · split
        · rfl
        · split <;> rfl
def capB (x : Int) : Int := if x > 1125899906842624 then 1125899906842624 else x
/-- What a node costs through its kids, over costs that are all known. -/
def thr (i : List Int) : Int → List Int → Int
  | acc, [] => acc
  | acc, c :: t => thr i (capB (acc + rd i c)) t
/-- The same, -1 where a kid is not known. -/
def nod (s : List Int) : Int → List Int → Int
  | acc, [] => acc
  | acc, c :: t => if rd s c < 0 then -1 else nod s (capB (acc + rd s c)) t
def TI (i : List Int) (x : S114) : Int := thr i (costN x.f0) x.f2
def TS (s : List Int) (x : S114) : Int := nod s (costN x.f0) x.f2
/-- Costs within their bounds. -/
def okI (i : List Int) : Prop := ∀ c : Int, 0 ≤ rd i c ∧ rd i c ≤ 1125899906842624
def okS (s : List Int) : Prop := ∀ c : Int, rd s c ≤ 1125899906842624
def ph (x : Int) : Int := if x < 0 then 1125899906842624 else x
theorem rd_map_ph (s : List Int) (c : Int) : rd (s.map ph) c = ph (rd s c) := by
  unfold rd
  rw [List.getD_eq_getElem?_getD, List.getD_eq_getElem?_getD, List.getElem?_map]
  cases s[c.toNat]? with
  | none => rfl
  | some x => rfl
theorem ok_map {s : List Int} (h : okS s) : okI (s.map ph) := by
  intro c
  rw [rd_map_ph]
  have := h c
  unfold ph
  split <;> omega
theorem capB_range {x : Int} (h : 0 ≤ x) : 0 ≤ capB x ∧ capB x ≤ 1125899906842624 := by unfold capB; split <;> omega
theorem thr_range {i : List Int} (h : okI i) : ∀ (l : List Int) (acc : Int), 0 ≤ acc → acc ≤ 1125899906842624 → 0 ≤ thr i acc l ∧ thr i acc l ≤ 1125899906842624 := by
  intro l
  induction l with
  | nil => intro acc h0 h1; exact ⟨h0, h1⟩
  | cons c t ih =>
    intro acc h0 h1
    have hc := capB_range (x := acc + rd i c) (by have := (h c).1; omega)
    exact ih _ hc.1 hc.2
theorem thr_top {i : List Int} (h : okI i) : ∀ l : List Int, thr i 1125899906842624 l = 1125899906842624 := by
  intro l
  induction l with
  | nil => rfl
  | cons c t ih =>
    show thr i (capB (1125899906842624 + rd i c)) t = _
    have e : capB (1125899906842624 + rd i c) = 1125899906842624 := by have := (h c).1; unfold capB; split <;> omega
    rw [e]
    exact ih
theorem thr_nod {s : List Int} (h : okS s) : ∀ (l : List Int) (acc : Int), 0 ≤ acc → acc ≤ 1125899906842624 → thr (s.map ph) acc l = ph (nod s acc l) := by
  intro l
  induction l with
  | nil => intro acc h0 h1; unfold ph; show acc = if acc < 0 then _ else acc; rw [if_neg (by omega)]
  | cons c t ih =>
    intro acc h0 h1
    show thr (s.map ph) (capB (acc + rd (s.map ph) c)) t = ph (if rd s c < 0 then -1 else nod s (capB (acc + rd s c)) t)
    rw [rd_map_ph]
    by_cases hc : rd s c < 0
    · have e : capB (acc + ph (rd s c)) = 1125899906842624 := by unfold ph capB; rw [if_pos hc]; split <;> omega
      rw [if_pos hc, e, thr_top (ok_map h)]
      rfl
    · have e : ph (rd s c) = rd s c := if_neg hc
      have hr := capB_range (x := acc + rd s c) (by omega)
      rw [if_neg hc, e]
      exact ih _ hr.1 hr.2
theorem nod_neg {s : List Int} (h : okS s) : ∀ (l : List Int) (acc : Int), 0 ≤ acc → nod s acc l ≤ 1125899906842624 ∨ acc > 1125899906842624 := by
  intro l
  induction l with
  | nil => intro acc h0; show acc ≤ _ ∨ _; omega
  | cons c t ih =>
    intro acc h0
    show (if rd s c < 0 then -1 else nod s (capB (acc + rd s c)) t) ≤ _ ∨ _
    by_cases hc : rd s c < 0
    · rw [if_pos hc]; omega
    · rw [if_neg hc]
      have hr := capB_range (x := acc + rd s c) (by omega)
      rcases ih (capB (acc + rd s c)) hr.1 with h | h
      · exact .inl h
      · omega
theorem nod_known {s : List Int} : ∀ (l : List Int) (acc : Int), 0 ≤ acc → (∀ c ∈ l, 0 ≤ rd s c) → 0 ≤ nod s acc l := by
  intro l
  induction l with
  | nil => intro acc h0 _; exact h0
  | cons c t ih =>
    intro acc h0 hl
    have hc := hl c (List.mem_cons_self ..)
    show 0 ≤ if rd s c < 0 then -1 else nod s (capB (acc + rd s c)) t
    rw [if_neg (by omega)]
    exact ih _ (capB_range (by omega)).1 (fun x hx => hl x (List.mem_cons_of_mem _ hx))
theorem TI_range {i : List Int} (h : okI i) (x : S114) : 0 ≤ TI i x ∧ TI i x ≤ 1125899906842624 := by
  have := costN_pos x.f0
  exact thr_range h _ _ (by omega) (by omega)
theorem TS_le {s : List Int} (h : okS s) (x : S114) : TS s x ≤ 1125899906842624 := by
  have := costN_pos x.f0
  rcases nod_neg h x.f2 (costN x.f0) (by omega) with h | h
  · exact h
  · omega
theorem TI_TS {s : List Int} (h : okS s) (x : S114) : TI (s.map ph) x = ph (TS s x) := by
  have := costN_pos x.f0
  exact thr_nod h _ _ (by omega) (by omega)
/-- The loops of one node. -/
theorem through_run (i : List Int) (h : okI i) (kids : List Int) (hk3 : kids.length ≤ 1048576) (hin : ∀ c ∈ kids, 0 ≤ c ∧ c < (i.length : Int)) (d : Nat) : ∀ (k j : Nat) (acc : Int), j + d = kids.length → 0 ≤ acc → acc ≤ 1125899906842624 → d < k →
    impl_through.l0 k i acc kids (kids.length : Int) (j : Int) = some (thr i acc (kids.drop j)) := by
  induction d with
  | zero =>
    intro k j acc hj h0 h1 hk
    obtain ⟨k, rfl⟩ : ∃ m, k = m + 1 := ⟨k - 1, by omega⟩
    simp only [impl_through.l0]
    rw [if_neg (by omega), List.drop_of_length_le (by omega)]
    rfl
  | succ d ih =>
    intro k j acc hj h0 h1 hk
    obtain ⟨k, rfl⟩ : ∃ m, k = m + 1 := ⟨k - 1, by omega⟩
    have hjl : j < kids.length := by omega
    have hc := hin _ (List.getElem_mem hjl)
    have hi := h kids[j]
    have e : mn (wrap64 (acc + rd i kids[j])) 1125899906842624 = capB (acc + rd i kids[j]) := by
      rw [w64 _ (by omega) (by omega)]; unfold mn capB; split <;> first | rfl | omega | (split <;> omega)
    have hr := capB_range (x := acc + rd i kids[j]) (by omega)
    simp only [impl_through.l0]
    rw [if_pos (by omega), if_pos (by omega), if_pos (by omega), rd_nat, getD_lt kids j hjl, if_pos hc.1, if_pos hc.2, e, w64s j (by omega), ih k (j + 1) _ (by omega) hr.1 hr.2 (by omega), List.drop_eq_getElem_cons hjl]
    rfl
theorem through_f (i : List Int) (h : okI i) (x : S114) (hk3 : x.f2.length ≤ 3) (hin : ∀ c ∈ x.f2, 0 ≤ c ∧ c < (i.length : Int)) (k : Nat) (hk : 3 < k) : impl_through.f k x.f0 x.f1 x.f2 i = some (TI i x) := by
  unfold impl_through.f
  have hc := costN_pos x.f0
  rw [implCost_f _ k (by omega), Option.bind_some]
  have := through_run i h x.f2 (by omega) hin x.f2.length k 0 (costN x.f0) (by omega) (by omega) (by omega) (by omega)
  rw [List.drop_zero] at this
  exact this
theorem node_run (s : List Int) (h : okS s) (kids : List Int) (hk3 : kids.length ≤ 1048576) (hin : ∀ c ∈ kids, 0 ≤ c ∧ c < (s.length : Int)) (d : Nat) : ∀ (k j : Nat) (acc : Int), j + d = kids.length → 0 ≤ acc → acc ≤ 1125899906842624 → d < k →
    spec_l10Node.l0 k s acc kids (kids.length : Int) (j : Int) = some (nod s acc (kids.drop j)) := by
  induction d with
  | zero =>
    intro k j acc hj h0 h1 hk
    obtain ⟨k, rfl⟩ : ∃ m, k = m + 1 := ⟨k - 1, by omega⟩
    simp only [spec_l10Node.l0]
    rw [if_neg (by omega), List.drop_of_length_le (by omega)]
    rfl
  | succ d ih =>
    intro k j acc hj h0 h1 hk
    obtain ⟨k, rfl⟩ : ∃ m, k = m + 1 := ⟨k - 1, by omega⟩
    have hjl : j < kids.length := by omega
    have hc := hin _ (List.getElem_mem hjl)
    have hi := h kids[j]
    have hn : nod s acc (kids.drop j) = if rd s kids[j] < 0 then -1 else nod s (capB (acc + rd s kids[j])) (kids.drop (j + 1)) := by rw [List.drop_eq_getElem_cons hjl]; rfl
    rw [hn]
    simp only [spec_l10Node.l0]
    rw [if_pos (by omega), if_pos (by omega), if_pos (by omega), rd_nat, getD_lt kids j hjl, if_pos hc.1, if_pos hc.2, w64s j (by omega)]
    by_cases hs : rd s kids[j] < 0
    · rw [if_pos hs, if_pos hs]
    · have hr := capB_range (x := acc + rd s kids[j]) (by omega)
      rw [if_neg hs, if_neg hs, w64 (acc + rd s kids[j]) (by omega) (by omega)]
      by_cases hb : acc + rd s kids[j] > 1125899906842624
      · have e : capB (acc + rd s kids[j]) = 1125899906842624 := if_pos hb
        rw [if_pos hb, ih k (j + 1) _ (by omega) (by omega) (by omega) (by omega), e]
      · have e : capB (acc + rd s kids[j]) = acc + rd s kids[j] := if_neg hb
        rw [if_neg hb, ih k (j + 1) _ (by omega) (by omega) (by omega) (by omega), e]
theorem node_f (s : List Int) (h : okS s) (x : S114) (hk3 : x.f2.length ≤ 3) (hin : ∀ c ∈ x.f2, 0 ≤ c ∧ c < (s.length : Int)) (k : Nat) (hk : 3 < k) : spec_l10Node.f k x.f0 x.f1 x.f2 s = some (TS s x) := by
  unfold spec_l10Node.f
  have hc := costN_pos x.f0
  rw [specOp_f _ k (by omega), Option.bind_some]
  have := node_run s h x.f2 (by omega) hin x.f2.length k 0 (costN x.f0) (by omega) (by omega) (by omega) (by omega)
  rw [List.drop_zero] at this
  exact this
/-! One pass over the nodes. -/
def stepI (n : List S114) (p : List Int) (k : Nat) (st : List Int × Bool) : List Int × Bool :=
  if TI st.1 (n.getD k z114) < rd st.1 (p.getD k 0) then (st.1.set (p.getD k 0).toNat (TI st.1 (n.getD k z114)), true) else st
def stepS (n : List S114) (p : List Int) (k : Nat) (st : List Int × Bool) : List Int × Bool :=
  if 0 ≤ TS st.1 (n.getD k z114) ∧ (rd st.1 (p.getD k 0) < 0 ∨ TS st.1 (n.getD k z114) < rd st.1 (p.getD k 0)) then (st.1.set (p.getD k 0).toNat (TS st.1 (n.getD k z114)), true) else st
def passI (n : List S114) (p : List Int) : Nat → Nat → List Int × Bool → List Int × Bool
  | 0, _, st => st
  | d + 1, k, st => passI n p d (k + 1) (stepI n p k st)
def passS (n : List S114) (p : List Int) : Nat → Nat → List Int × Bool → List Int × Bool
  | 0, _, st => st
  | d + 1, k, st => passS n p d (k + 1) (stepS n p k st)
theorem rd_set (l : List Int) (j : Nat) (hj : j < l.length) (v c : Int) (hc : 0 ≤ c) : rd (l.set j v) c = if c = (j : Int) then v else rd l c := by
  unfold rd
  rw [List.getD_eq_getElem?_getD, List.getD_eq_getElem?_getD, List.getElem?_set]
  by_cases h : c = (j : Int)
  · subst h
    rw [if_pos rfl, Int.toNat_natCast, if_pos rfl, if_pos hj]
    rfl
  · rw [if_neg h, if_neg (by omega)]
theorem rd_neg (l : List Int) (c : Int) (hc : c < 0) : rd l c = rd l 0 := by
  unfold rd
  rw [show c.toNat = 0 by omega]
  rfl
theorem stepS_ok {n : List S114} {p : List Int} (hg : goodG n p = true) (k : Nat) (hk : k < n.length) (st : List Int × Bool) (hl : st.1.length = n.length) (h : okS st.1) : (stepS n p k st).1.length = n.length ∧ okS (stepS n p k st).1 := by
  unfold stepS
  split
  · refine ⟨by rw [List.length_set]; exact hl, fun c => ?_⟩
    have hp := gg_par hg k hk
    unfold goodAt at hp
    have ht := TS_le h (n.getD k z114)
    by_cases hc : 0 ≤ c
    · rw [rd_set _ _ (by omega) _ _ hc]
      split
      · exact ht
      · exact h c
    · rw [rd_neg _ _ (by omega), rd_set _ _ (by omega) _ _ (by omega)]
      split
      · exact ht
      · exact h 0
  · exact ⟨hl, h⟩
/-- The program's step follows the reference's. -/
theorem step_same {n : List S114} {p : List Int} (hg : goodG n p = true) (k : Nat) (hk : k < n.length) (s : List Int) (fS fI : Bool) (hl : s.length = n.length) (h : okS s) (hf : fI = true → fS = true) :
    ∃ fI', stepI n p k (s.map ph, fI) = ((stepS n p k (s, fS)).1.map ph, fI') ∧ (fI' = true → (stepS n p k (s, fS)).2 = true) := by
  have hp := gg_par hg k hk
  unfold goodAt at hp
  unfold stepI stepS
  simp only
  rw [TI_TS h, rd_map_ph]
  have ht := TS_le h (n.getD k z114)
  have hs := h (p.getD k 0)
  obtain ⟨t, ht'⟩ : ∃ t, TS s (n.getD k z114) = t := ⟨_, rfl⟩
  rw [ht'] at ht ⊢
  obtain ⟨v, hv⟩ : ∃ v, rd s (p.getD k 0) = v := ⟨_, rfl⟩
  rw [hv] at hs ⊢
  by_cases hc : 0 ≤ t ∧ (v < 0 ∨ t < v)
  · rw [if_pos hc]
    have e : ph t = t := if_neg (by omega)
    rw [e]
    by_cases h2 : t < ph v
    · rw [if_pos h2]
      refine ⟨true, ?_, fun _ => rfl⟩
      rw [List.map_set, e]
    · rw [if_neg h2]
      refine ⟨fI, ?_, fun _ => rfl⟩
      congr 1
      -- the value that is put is the greatest one, as it stood
      have hv2 : ph v = t := by
        unfold ph at h2 ⊢
        split
        · rename_i h3; rw [if_pos h3] at h2; omega
        · rename_i h3; rw [if_neg h3] at h2; omega
      apply List.ext_getElem?
      intro j
      rw [List.getElem?_map, List.getElem?_map, List.getElem?_set]
      by_cases hj : (p.getD k 0).toNat = j
      · subst hj
        rw [if_pos rfl, if_pos (by omega), List.getElem?_eq_getElem (by omega)]
        have e2 : rd s (p.getD k 0) = s[(p.getD k 0).toNat] := by unfold rd; rw [List.getD_eq_getElem?_getD, List.getElem?_eq_getElem (by omega)]; rfl
        rw [Option.map_some, Option.map_some, ← e2, hv, hv2, e]
      · rw [if_neg hj]
  · rw [if_neg hc]
    have h2 : ¬ ph t < ph v := by
      unfold ph
      split <;> split <;> omega
    rw [if_neg h2]
    exact ⟨fI, rfl, hf⟩
theorem pass_same {n : List S114} {p : List Int} (hg : goodG n p = true) (d : Nat) : ∀ (k : Nat) (s : List Int) (fS fI : Bool), k + d = n.length → s.length = n.length → okS s → (fI = true → fS = true) →
    ∃ fI', passI n p d k (s.map ph, fI) = ((passS n p d k (s, fS)).1.map ph, fI') ∧ (fI' = true → (passS n p d k (s, fS)).2 = true) ∧ (passS n p d k (s, fS)).1.length = n.length ∧ okS (passS n p d k (s, fS)).1 := by
  induction d with
  | zero => intro k s fS fI hk hl h hf; exact ⟨fI, rfl, hf, hl, h⟩
  | succ d ih =>
    intro k s fS fI hk hl h hf
    obtain ⟨f1, e1, hf1⟩ := step_same hg k (by omega) s fS fI hl h hf
    have h2 := stepS_ok hg k (by omega) (s, fS) hl h
    simp only [passI, passS]
    rw [e1]
    have := ih (k + 1) (stepS n p k (s, fS)).1 (stepS n p k (s, fS)).2 f1 (by omega) h2.1 h2.2 hf1
    exact this
theorem passI_flag {n : List S114} {p : List Int} (d : Nat) : ∀ (k : Nat) (st : List Int × Bool), (passI n p d k st).2 = false → st.2 = false ∧ (passI n p d k st).1 = st.1 ∧ ∀ j, k ≤ j → j < k + d → ¬ TI st.1 (n.getD j z114) < rd st.1 (p.getD j 0) := by
  induction d with
  | zero => intro k st h; exact ⟨h, rfl, fun j h1 h2 => by omega⟩
  | succ d ih =>
    intro k st h
    simp only [passI] at h ⊢
    obtain ⟨h1, h2, h3⟩ := ih (k + 1) _ h
    unfold stepI at h1 h2 h3 ⊢
    by_cases hc : TI st.1 (n.getD k z114) < rd st.1 (p.getD k 0)
    · rw [if_pos hc] at h1; exact absurd h1 (by simp)
    · rw [if_neg hc] at h1 h2 h3 ⊢
      refine ⟨h1, h2, fun j hj1 hj2 => ?_⟩
      by_cases e : j = k
      · subst e; exact hc
      · exact h3 j (by omega) (by omega)
theorem passS_flag {n : List S114} {p : List Int} (d : Nat) : ∀ (k : Nat) (st : List Int × Bool), (passS n p d k st).2 = false → st.2 = false ∧ (passS n p d k st).1 = st.1 ∧ ∀ j, k ≤ j → j < k + d → ¬ (0 ≤ TS st.1 (n.getD j z114) ∧ (rd st.1 (p.getD j 0) < 0 ∨ TS st.1 (n.getD j z114) < rd st.1 (p.getD j 0))) := by
  induction d with
  | zero => intro k st h; exact ⟨h, rfl, fun j h1 h2 => by omega⟩
  | succ d ih =>
    intro k st h
    simp only [passS] at h ⊢
    obtain ⟨h1, h2, h3⟩ := ih (k + 1) _ h
    unfold stepS at h1 h2 h3 ⊢
    by_cases hc : 0 ≤ TS st.1 (n.getD k z114) ∧ (rd st.1 (p.getD k 0) < 0 ∨ TS st.1 (n.getD k z114) < rd st.1 (p.getD k 0))
    · rw [if_pos hc] at h1; exact absurd h1 (by simp)
    · rw [if_neg hc] at h1 h2 h3 ⊢
      refine ⟨h1, h2, fun j hj1 hj2 => ?_⟩
      by_cases e : j = k
      · subst e; exact hc
      · exact h3 j (by omega) (by omega)
/-- What is left to fall. -/
def psi1 (x : Int) : Nat := if x < 0 then 1125899906842625 else x.toNat
def psi (s : List Int) : Nat := (s.map psi1).sum
theorem psi_set (s : List Int) : ∀ (j : Nat) (hj : j < s.length) (v : Int), psi1 v < psi1 s[j] → psi (s.set j v) < psi s := by
  induction s with
  | nil => intro j hj; exact absurd hj (Nat.not_lt_zero _)
  | cons x t ih =>
    intro j hj v hv
    unfold psi at ih ⊢
    cases j with
    | zero =>
      simp only [List.set_cons_zero, List.map_cons, List.sum_cons]
      simp only [List.getElem_cons_zero] at hv
      omega
    | succ j =>
      simp only [List.set_cons_succ, List.map_cons, List.sum_cons]
      have := ih j (by simpa using hj) v (by simpa using hv)
      omega
theorem stepS_psi {n : List S114} {p : List Int} (hg : goodG n p = true) (k : Nat) (hk : k < n.length) (st : List Int × Bool) (hl : st.1.length = n.length) (h' : okS st.1) : psi (stepS n p k st).1 ≤ psi st.1 ∧ ((stepS n p k st).2 = true → st.2 = true ∨ psi (stepS n p k st).1 < psi st.1) := by
  have hp := gg_par hg k hk
  unfold goodAt at hp
  unfold stepS
  split
  · rename_i hc
    have e2 : rd st.1 (p.getD k 0) = st.1[(p.getD k 0).toNat]'(by omega) := by unfold rd; rw [List.getD_eq_getElem?_getD, List.getElem?_eq_getElem (by omega)]; rfl
    have := psi_set st.1 (p.getD k 0).toNat (by omega) (TS st.1 (n.getD k z114)) (by
      rw [← e2]
      unfold psi1
      rw [if_neg (by omega)]
      rcases hc.2 with h | h
      · rw [if_pos h]; have := TS_le h' (n.getD k z114); omega
      · rw [if_neg (by omega)]; omega)
    exact ⟨Nat.le_of_lt this, fun _ => .inr this⟩
  · exact ⟨Nat.le_refl _, fun h => .inl h⟩
theorem passS_psi {n : List S114} {p : List Int} (hg : goodG n p = true) (d : Nat) : ∀ (k : Nat) (st : List Int × Bool), k + d = n.length → st.1.length = n.length → okS st.1 → psi (passS n p d k st).1 ≤ psi st.1 ∧ ((passS n p d k st).2 = true → st.2 = true ∨ psi (passS n p d k st).1 < psi st.1) := by
  induction d with
  | zero => intro k st _ _ _; exact ⟨Nat.le_refl _, fun h => .inl h⟩
  | succ d ih =>
    intro k st hk hl h
    have h1 := stepS_psi hg k (by omega) st hl h
    have h2 := stepS_ok hg k (by omega) st hl h
    have h3 := ih (k + 1) (stepS n p k st) (by omega) h2.1 h2.2
    simp only [passS]
    refine ⟨Nat.le_trans h3.1 h1.1, fun hh => ?_⟩
    rcases h3.2 hh with h4 | h4
    · rcases h1.2 h4 with h5 | h5
      · exact .inl h5
      · exact .inr (by omega)
    · exact .inr (by omega)
/-! The loops of the two functions. -/
theorem spec_l2 {n : List S114} {p : List Int} (hg : goodG n p = true) (K : Nat) (hK : 3 < K) (d : Nat) : ∀ (j : Nat) (st : List Int × Bool), j + d = n.length → st.1.length = n.length → okS st.1 →
    spec_l10Best.l2 (K + d + 1) st.1 st.2 n (n.length : Int) (j : Int) n p = spec_l10Best.l1 K (passS n p d j st).1 (passS n p d j st).2 n p := by
  have hpl := gg_len hg
  induction d with
  | zero =>
    intro j st hj hl h
    simp only [spec_l10Best.l2, passS]
    rw [if_neg (by omega)]
  | succ d ih =>
    intro j st hj hl h
    obtain ⟨K', hK'⟩ : ∃ K', K' = K + d + 1 := ⟨_, rfl⟩
    have hkd := gg_kids hg j (by omega)
    have hpj := gg_par hg j (by omega)
    unfold goodAt at hpj
    have h2 := stepS_ok hg j (by omega) st hl h
    have ihh := ih (j + 1) (stepS n p j st) (by omega) h2.1 h2.2
    rw [← hK'] at ihh
    rw [show K + (d + 1) + 1 = K' + 1 by omega]
    simp only [spec_l10Best.l2, passS]
    rw [if_pos (by omega), if_pos (by omega), if_pos (by omega), rdE_getD, node_f st.1 h _ hkd.1 (fun c hc => by have := hkd.2 c hc; omega) K' (by omega), Option.bind_some, if_pos (by omega), w64s j (by omega), ← ihh, rd_nat]
    unfold stepS
    by_cases hc : 0 ≤ TS st.1 (n.getD j z114)
    · rw [if_pos (show TS st.1 (n.getD j z114) ≥ 0 from hc), if_pos (by omega), if_pos (by omega)]
      by_cases hv : rd st.1 (p.getD j 0) < 0
      · rw [if_pos hv, if_pos ⟨hc, .inl hv⟩]
      · rw [if_neg hv]
        by_cases hv2 : TS st.1 (n.getD j z114) < rd st.1 (p.getD j 0)
        · rw [if_pos hv2, if_pos ⟨hc, .inr hv2⟩]
        · rw [if_neg hv2, if_neg (fun h => h.2.elim hv hv2)]
    · rw [if_neg (show ¬ TS st.1 (n.getD j z114) ≥ 0 from hc), if_neg (fun h => hc h.1)]
theorem impl_l2 {n : List S114} {p : List Int} (hg : goodG n p = true) (K : Nat) (hK : 3 < K) (d : Nat) : ∀ (j : Nat) (st : List Int × Bool), j + d = n.length → st.1.length = n.length → okI st.1 →
    impl_EGraph_best.l2 (K + d + 1) st.1 st.2 n (n.length : Int) (j : Int) n p = impl_EGraph_best.l1 K (passI n p d j st).1 (passI n p d j st).2 n p := by
  have hpl := gg_len hg
  induction d with
  | zero =>
    intro j st hj hl h
    simp only [impl_EGraph_best.l2, passI]
    rw [if_neg (by omega)]
  | succ d ih =>
    intro j st hj hl h
    obtain ⟨K', hK'⟩ : ∃ K', K' = K + d + 1 := ⟨_, rfl⟩
    have hkd := gg_kids hg j (by omega)
    have hpj := gg_par hg j (by omega)
    unfold goodAt at hpj
    have h2 : (stepI n p j st).1.length = n.length ∧ okI (stepI n p j st).1 := by
      unfold stepI
      split
      · refine ⟨by rw [List.length_set]; exact hl, fun c => ?_⟩
        have ht := TI_range h (n.getD j z114)
        by_cases hc : 0 ≤ c
        · rw [rd_set _ _ (by omega) _ _ hc]
          split
          · exact ht
          · exact h c
        · rw [rd_neg _ _ (by omega), rd_set _ _ (by omega) _ _ (by omega)]
          split
          · exact ht
          · exact h 0
      · exact ⟨hl, h⟩
    have ihh := ih (j + 1) (stepI n p j st) (by omega) h2.1 h2.2
    rw [← hK'] at ihh
    rw [show K + (d + 1) + 1 = K' + 1 by omega]
    simp only [impl_EGraph_best.l2, passI]
    rw [if_pos (by omega), if_pos (by omega), if_pos (by omega), rdE_getD, through_f st.1 h _ hkd.1 (fun c hc => by have := hkd.2 c hc; omega) K' (by omega), Option.bind_some, if_pos (by omega), rd_nat, if_pos (by omega), if_pos (by omega), w64s j (by omega), ← ihh]
    unfold stepI
    by_cases hv2 : TI st.1 (n.getD j z114) < rd st.1 (p.getD j 0)
    · rw [if_pos hv2, if_pos hv2]
    · rw [if_neg hv2, if_neg hv2]
/-- Each class whose cost is known has a node that costs no more. -/
def invI (n : List S114) (p : List Int) (i : List Int) : Prop := ∀ c : Nat, c < n.length → rd i (c : Int) < 1125899906842624 → ∃ k, k < n.length ∧ p.getD k 0 = (c : Int) ∧ TI i (n.getD k z114) ≤ rd i (c : Int)
theorem capB_mono {x y : Int} (h : x ≤ y) : capB x ≤ capB y := by unfold capB; split <;> split <;> omega
theorem thr_mono {i i' : List Int} (h : ∀ c, rd i' c ≤ rd i c) : ∀ (l : List Int) (a a' : Int), a' ≤ a → thr i' a' l ≤ thr i a l := by
  intro l
  induction l with
  | nil => intro a a' ha; exact ha
  | cons c t ih =>
    intro a a' ha
    have := h c
    exact ih _ _ (capB_mono (by omega))
theorem invI_step {n : List S114} {p : List Int} (hg : goodG n p = true) (k : Nat) (hk : k < n.length) (st : List Int × Bool) (hl : st.1.length = n.length) (h : invI n p st.1) : invI n p (stepI n p k st).1 := by
  have hp := gg_par hg k hk
  unfold goodAt at hp
  unfold stepI
  split
  · rename_i hc
    obtain ⟨v, hv⟩ : ∃ v, TI st.1 (n.getD k z114) = v := ⟨_, rfl⟩
    obtain ⟨m, hm⟩ : ∃ m : Nat, p.getD k 0 = (m : Int) := ⟨(p.getD k 0).toNat, by omega⟩
    rw [hv, hm] at hc ⊢
    rw [hm] at hp
    simp only [Int.toNat_natCast]
    have hle : ∀ c, rd (st.1.set m v) c ≤ rd st.1 c := by
      intro c
      by_cases h0 : 0 ≤ c
      · rw [rd_set _ _ (by omega) _ _ h0]
        split
        · rename_i e; rw [e]; omega
        · exact Int.le_refl _
      · rw [rd_neg _ _ (by omega), rd_neg st.1 c (by omega), rd_set _ _ (by omega) _ _ (by omega)]
        split
        · rename_i e; rw [e]; omega
        · exact Int.le_refl _
    have hTI : ∀ x, TI (st.1.set m v) x ≤ TI st.1 x := fun x => thr_mono hle _ _ _ (Int.le_refl _)
    intro c hcl hcb
    rw [rd_set _ _ (by omega) _ _ (by omega)] at hcb ⊢
    by_cases e : (c : Int) = (m : Int)
    · rw [if_pos e]
      refine ⟨k, hk, by rw [hm]; exact e.symm, ?_⟩
      rw [← hv]
      rw [hv]
      have := hTI (n.getD k z114)
      omega
    · rw [if_neg e] at hcb ⊢
      obtain ⟨j, hj, h1, h2⟩ := h c hcl hcb
      exact ⟨j, hj, h1, Int.le_trans (hTI _) h2⟩
  · exact h
theorem stepI_len {n : List S114} {p : List Int} (k : Nat) (st : List Int × Bool) : (stepI n p k st).1.length = st.1.length := by
  unfold stepI
  split
  · exact List.length_set
  · rfl
theorem invI_pass {n : List S114} {p : List Int} (hg : goodG n p = true) (d : Nat) : ∀ (k : Nat) (st : List Int × Bool), k + d = n.length → st.1.length = n.length → invI n p st.1 → invI n p (passI n p d k st).1 := by
  induction d with
  | zero => intro k st _ _ h; exact h
  | succ d ih =>
    intro k st hk hl h
    have h1 := invI_step hg k (by omega) st hl h
    exact ih (k + 1) (stepI n p k st) (by omega) ((stepI_len k st).trans hl) h1
/-- What both come to: the reference's costs s, the program's the same with the greatest for what is not known. -/
structure Best (n : List S114) (p : List Int) (s : List Int) : Prop where
  len : s.length = n.length
  ok : okS s
  fixS : ∀ j, j < n.length → ¬ (0 ≤ TS s (n.getD j z114) ∧ (rd s (p.getD j 0) < 0 ∨ TS s (n.getD j z114) < rd s (p.getD j 0)))
  inv : invI n p (s.map ph)
theorem best_run {n : List S114} {p : List Int} (hg : goodG n p = true) (N : Nat) : ∀ (s : List Int), psi s ≤ N → s.length = n.length → okS s → invI n p (s.map ph) →
    ∃ s', Best n p s' ∧ (∀ K, 200 * N + 200 ≤ K → spec_l10Best.l1 K s true n p = some s') ∧ (∀ K, 200 * N + 200 ≤ K → impl_EGraph_best.l1 K (s.map ph) true n p = some (s'.map ph)) := by
  have hpl := gg_len hg
  induction N using Nat.strongRecOn with
  | _ N ih =>
    intro s hs hl h hinv
    obtain ⟨fI, e1, hf, hl', h'⟩ := pass_same hg n.length 0 s false false (by omega) hl h (fun h => absurd h (by simp))
    have hps := passS_psi hg n.length 0 (s, false) (by omega) hl h
    have hinv' := invI_pass hg n.length 0 (s.map ph, false) (by omega) (by rw [List.length_map]; exact hl) hinv
    rw [e1] at hinv'
    obtain ⟨st, hst⟩ : ∃ st, passS n p n.length 0 (s, false) = st := ⟨_, rfl⟩
    rw [hst] at e1 hf hl' h' hps hinv'
    obtain ⟨s2, fS⟩ := st
    simp only at e1 hf hl' h' hps hinv'
    have goS : ∀ K, 3 < K → spec_l10Best.l1 (K + n.length + 1 + 1) s true n p = spec_l10Best.l1 K s2 fS n p := by
      intro K hK
      obtain ⟨K', hK'⟩ : ∃ K', K' = K + n.length + 1 := ⟨_, rfl⟩
      have := spec_l2 hg K hK n.length 0 (s, false) (by omega) hl h
      rw [hst, ← hK'] at this
      rw [← hK']
      simp only [spec_l10Best.l1]
      rw [if_pos trivial]
      exact this
    have goI : ∀ K, 3 < K → impl_EGraph_best.l1 (K + n.length + 1 + 1) (s.map ph) true n p = impl_EGraph_best.l1 K (s2.map ph) fI n p := by
      intro K hK
      obtain ⟨K', hK'⟩ : ∃ K', K' = K + n.length + 1 := ⟨_, rfl⟩
      have := impl_l2 hg K hK n.length 0 (s.map ph, false) (by omega) (by rw [List.length_map]; exact hl) (ok_map h)
      rw [e1, ← hK'] at this
      rw [← hK']
      simp only [impl_EGraph_best.l1]
      rw [if_pos trivial]
      exact this
    have endI : ∀ K i, 0 < K → impl_EGraph_best.l1 K i false n p = some i := by
      intro K i hK
      obtain ⟨K, rfl⟩ : ∃ m, K = m + 1 := ⟨K - 1, by omega⟩
      simp [impl_EGraph_best.l1]
    cases fS with
    | false =>
      have hfI : fI = false := by cases fI with
        | false => rfl
        | true => exact absurd (hf rfl) (by simp)
      subst hfI
      have hfl := passS_flag n.length 0 (s, false) (by rw [hst])
      rw [hst] at hfl
      simp only at hfl
      obtain ⟨-, rfl, hfix⟩ := hfl
      refine ⟨s2, ⟨hl, h, fun j hj => hfix j (Nat.zero_le _) (by omega), hinv⟩, fun K hK => ?_, fun K hK => ?_⟩
      · obtain ⟨K, rfl⟩ : ∃ m, K = m + n.length + 1 + 1 := ⟨K - n.length - 2, by omega⟩
        rw [goS K (by omega)]
        obtain ⟨K, rfl⟩ : ∃ m, K = m + 1 := ⟨K - 1, by omega⟩
        simp [spec_l10Best.l1]
      · obtain ⟨K, rfl⟩ : ∃ m, K = m + n.length + 1 + 1 := ⟨K - n.length - 2, by omega⟩
        rw [goI K (by omega), endI K _ (by omega)]
    | true =>
      have hlt : psi s2 < psi s := (hps.2 rfl).elim (fun h => absurd h (by simp)) id
      obtain ⟨s', hb, hS, hI⟩ := ih (psi s2) (by omega) s2 (Nat.le_refl _) hl' h' hinv'
      refine ⟨s', hb, fun K hK => ?_, fun K hK => ?_⟩
      · obtain ⟨K, rfl⟩ : ∃ m, K = m + n.length + 1 + 1 := ⟨K - n.length - 2, by omega⟩
        rw [goS K (by omega)]
        exact hS K (by omega)
      · obtain ⟨K, rfl⟩ : ∃ m, K = m + n.length + 1 + 1 := ⟨K - n.length - 2, by omega⟩
        rw [goI K (by omega)]
        cases fI with
        | true => exact hI K (by omega)
        | false =>
          -- the program ends here; the reference's further rounds change nothing of what it has
          have hfl := passI_flag n.length 0 (s.map ph, false) (by rw [e1])
          rw [e1] at hfl
          simp only at hfl
          rw [endI K _ (by omega)]
          have h1 := hI (200 * psi s2 + 200 + n.length + 1 + 1) (by omega)
          rw [hfl.2.1] at h1
          have h2 := goI (200 * psi s2 + 200) (by omega)
          rw [h2, endI _ _ (by omega)] at h1
          exact h1
theorem psi_rep (m : Nat) : psi (List.replicate m (-1)) = m * 1125899906842625 := by
  unfold psi
  induction m with
  | zero => simp
  | succ m ih =>
    rw [List.replicate_succ, List.map_cons, List.sum_cons, ih, show psi1 (-1) = 1125899906842625 from rfl]
    omega
theorem fill_run (n : List S114) (p : List Int) (m : Nat) (hm : m ≤ 1048576) (d : Nat) : ∀ (j : Nat) (x : List Int) (v : Int) (K : Nat), j + d = m → x.length = m → (∀ i, i < j → x[i]? = some v) →
    (v = -1 → spec_l10Best.l0 (K + d + 1) x (m : Int) (j : Int) n p = spec_l10Best.l1 K (List.replicate m v) true n p) ∧ (v = 1125899906842624 → impl_EGraph_best.l0 (K + d + 1) x (m : Int) (j : Int) n p = impl_EGraph_best.l1 K (List.replicate m v) true n p) := by
  induction d with
  | zero =>
    intro j x v K hj hx hv
    have e : x = List.replicate m v := by
      apply List.ext_getElem?
      intro i
      by_cases h : i < j
      · rw [hv i h, List.getElem?_replicate, if_pos (by omega)]
      · rw [List.getElem?_eq_none (by omega), List.getElem?_eq_none (by simp; omega)]
    simp only [spec_l10Best.l0, impl_EGraph_best.l0]
    rw [if_neg (by omega), if_neg (by omega), e]
    exact ⟨fun _ => rfl, fun _ => rfl⟩
  | succ d ih =>
    intro j x v K hj hx hv
    obtain ⟨K', hK'⟩ : ∃ K', K' = K + d + 1 := ⟨_, rfl⟩
    rw [show K + (d + 1) + 1 = K' + 1 by omega]
    simp only [spec_l10Best.l0, impl_EGraph_best.l0]
    rw [if_pos (by omega), if_pos (by omega), if_pos (by omega), if_pos (by omega), if_pos (by omega), if_pos (by omega), w64s j (by omega), hK', Int.toNat_natCast]
    have hs : ∀ i, i < j + 1 → (x.set j v)[i]? = some v := by
      intro i hi
      rw [List.getElem?_set]
      by_cases h : j = i
      · rw [if_pos h, if_pos (by omega)]
      · rw [if_neg h]; exact hv i (by omega)
    have := ih (j + 1) (x.set j v) v K (by omega) (by rw [List.length_set]; exact hx) hs
    constructor
    · intro e; subst e; exact this.1 rfl
    · intro e; subst e; exact this.2 rfl
theorem best_f {n : List S114} {p : List Int} (hg : goodG n p = true) : ∃ s, Best n p s ∧ ∀ K, 100000000000000000000000 ≤ K → spec_l10Best.f K n p = some s ∧ impl_EGraph_best.f K n p = some (s.map ph) := by
  have hpl := gg_len hg
  have e : (List.replicate n.length (-1 : Int)).map ph = List.replicate n.length 1125899906842624 := by rw [List.map_replicate]; rfl
  have hok : okS (List.replicate n.length (-1)) := by
    intro c
    unfold rd
    rw [List.getD_eq_getElem?_getD, List.getElem?_replicate]
    split <;> simp
  have hinv : invI n p ((List.replicate n.length (-1)).map ph) := by
    intro c hc hlt
    rw [e] at hlt
    unfold rd at hlt
    rw [List.getD_eq_getElem?_getD, List.getElem?_replicate, Int.toNat_natCast, if_pos hc] at hlt
    exact absurd hlt (by simp)
  have hps : psi (List.replicate n.length (-1)) ≤ 120 * 1125899906842625 := by rw [psi_rep]; exact Nat.mul_le_mul_right _ hpl.2
  obtain ⟨s, hb, hS, hI⟩ := best_run hg (120 * 1125899906842625) (List.replicate n.length (-1)) hps (by simp) hok hinv
  refine ⟨s, hb, fun K hK => ?_⟩
  unfold spec_l10Best.f impl_EGraph_best.f
  obtain ⟨K, rfl⟩ : ∃ m, K = m + n.length + 1 := ⟨K - n.length - 1, by omega⟩
  have hf := fill_run n p n.length (by omega) n.length 0 (List.replicate n.length 0)
  rw [e] at hI
  constructor
  · rw [if_pos (by omega), if_pos (by omega), Option.bind_some, Int.toNat_natCast]
    have := (hf (-1) K (by omega) (by simp) (fun i hi => absurd hi (Nat.not_lt_zero _))).1 rfl
    rw [show ((List.replicate n.length (0 : Int)).length : Int) = (n.length : Int) by simp]
    rw [show (0 : Int) = ((0 : Nat) : Int) from rfl] at this ⊢
    rw [this]
    exact hS K (by omega)
  · rw [if_pos (by omega), if_pos (by omega), Option.bind_some, Int.toNat_natCast]
    have := (hf 1125899906842624 K (by omega) (by simp) (fun i hi => absurd hi (Nat.not_lt_zero _))).2 rfl
    rw [show ((List.replicate n.length (0 : Int)).length : Int) = (n.length : Int) by simp]
    rw [show (0 : Int) = ((0 : Nat) : Int) from rfl] at this ⊢
    rw [this]
    exact hI K (by omega)
/-- Every class's cost is known at the end. -/
theorem best_known {n : List S114} {p : List Int} (hg : goodG n p = true) {s : List Int} (hb : Best n p s) : ∀ k, k < n.length → 0 ≤ rd s (p.getD k 0) := by
  intro k
  induction k using Nat.strongRecOn with
  | _ k ih =>
    intro hk
    have hkd := gg_kids hg k hk
    have hc := costN_pos (n.getD k z114).f0
    have hT : 0 ≤ TS s (n.getD k z114) := nod_known _ _ (by omega) (fun c hcm => by
      obtain ⟨h0, h1, h2⟩ := hkd.2 c hcm
      have := ih c.toNat (by omega) (by omega)
      have e : p.getD c.toNat 0 = c := h2
      rw [e] at this
      exact this)
    have hf := hb.fixS k hk
    by_cases h : 0 ≤ rd s (p.getD k 0)
    · exact h
    · exact absurd ⟨hT, .inl (by omega)⟩ hf

theorem best_facts {n : List S114} {p : List Int} (hg : goodG n p = true) {s : List Int} (hb : Best n p s) (k : Nat) (hk : k < n.length) : TS s (n.getD k z114) = TI (s.map ph) (n.getD k z114) ∧ rd s (p.getD k 0) = rd (s.map ph) (p.getD k 0) ∧ rd (s.map ph) (p.getD k 0) ≤ TI (s.map ph) (n.getD k z114) := by
  have hkd := gg_kids hg k hk
  have hc := costN_pos (n.getD k z114).f0
  have hT : 0 ≤ TS s (n.getD k z114) := nod_known _ _ (by omega) (fun c hcm => by
    obtain ⟨h0, h1, h2⟩ := hkd.2 c hcm
    have := best_known hg hb c.toNat (by omega)
    have e : p.getD c.toNat 0 = c := h2
    rw [e] at this
    exact this)
  have hp := best_known hg hb k hk
  have hf := hb.fixS k hk
  have e1 : TI (s.map ph) (n.getD k z114) = TS s (n.getD k z114) := by rw [TI_TS hb.ok]; exact if_neg (by omega)
  have e2 : rd (s.map ph) (p.getD k 0) = rd s (p.getD k 0) := by rw [rd_map_ph]; exact if_neg (by omega)
  rw [e1, e2]
  refine ⟨rfl, rfl, ?_⟩
  by_cases h : TS s (n.getD k z114) < rd s (p.getD k 0)
  · exact absurd ⟨hT, .inr h⟩ hf
  · omega
theorem best_min {n : List S114} {p : List Int} (hg : goodG n p = true) {s : List Int} (hb : Best n p s) (c : Nat) (hc : c < n.length) (hr : p.getD c 0 = (c : Int)) : ∃ k, k < n.length ∧ p.getD k 0 = (c : Int) ∧ TI (s.map ph) (n.getD k z114) = rd (s.map ph) (c : Int) := by
  have hi := ok_map hb.ok (c : Int)
  by_cases h : rd (s.map ph) (c : Int) < 1125899906842624
  · obtain ⟨k, hk, h1, h2⟩ := hb.inv c hc h
    have := (best_facts hg hb k hk).2.2
    rw [h1] at this
    exact ⟨k, hk, h1, by omega⟩
  · have h1 := (best_facts hg hb c hc).2.2
    rw [hr] at h1
    have h2 := TI_range (ok_map hb.ok) (n.getD c z114)
    exact ⟨c, hc, hr, by omega⟩
/-- The members of a part from i on. -/
def memL (p : List Int) (c : Int) : Nat → Nat → List Int
  | _, 0 => []
  | i, d + 1 => if p.getD i 0 = c then (i : Int) :: memL p c (i + 1) d else memL p c (i + 1) d
theorem memL_len (p : List Int) (c : Int) (d : Nat) : ∀ i, (memL p c i d).length ≤ d := by
  induction d with
  | zero => intro i; simp [memL]
  | succ d ih =>
    intro i
    have := ih (i + 1)
    simp only [memL]
    split <;> simp <;> omega
theorem memL_mem (p : List Int) (c : Int) (d : Nat) : ∀ i x, x ∈ memL p c i d ↔ ∃ k : Nat, x = (k : Int) ∧ i ≤ k ∧ k < i + d ∧ p.getD k 0 = c := by
  induction d with
  | zero => intro i x; simp [memL]; intro k _ h1 h2; omega
  | succ d ih =>
    intro i x
    simp only [memL]
    by_cases e : p.getD i 0 = c
    · rw [if_pos e, List.mem_cons, ih]
      constructor
      · rintro (rfl | ⟨k, rfl, h1, h2, h3⟩)
        · exact ⟨i, rfl, Nat.le_refl _, by omega, e⟩
        · exact ⟨k, rfl, by omega, by omega, h3⟩
      · rintro ⟨k, rfl, h1, h2, h3⟩
        by_cases h : k = i
        · subst h; exact .inl rfl
        · exact .inr ⟨k, rfl, by omega, by omega, h3⟩
    · rw [if_neg e, ih]
      constructor
      · rintro ⟨k, rfl, h1, h2, h3⟩; exact ⟨k, rfl, by omega, by omega, h3⟩
      · rintro ⟨k, rfl, h1, h2, h3⟩
        by_cases h : k = i
        · subst h; exact absurd h3 e
        · exact ⟨k, rfl, by omega, by omega, h3⟩
theorem members_run (p : List Int) (hp : p.length ≤ 1048576) (c : Int) (d : Nat) : ∀ (k i : Nat) (acc : List Int), i + d = p.length → acc.length ≤ i → d < k → impl_members.l0 k c acc p (p.length : Int) (i : Int) = some (acc ++ memL p c i d) := by
  induction d with
  | zero =>
    intro k i acc hi ha hk
    obtain ⟨k, rfl⟩ : ∃ m, k = m + 1 := ⟨k - 1, by omega⟩
    simp only [impl_members.l0, memL]
    rw [if_neg (by omega), List.append_nil]
  | succ d ih =>
    intro k i acc hi ha hk
    obtain ⟨k, rfl⟩ : ∃ m, k = m + 1 := ⟨k - 1, by omega⟩
    simp only [impl_members.l0, memL]
    rw [if_pos (by omega), if_pos (by omega), if_pos (by omega), rd_nat, w64s i (by omega)]
    by_cases e : p.getD i 0 = c
    · rw [if_pos e, if_pos e, if_pos (by omega), ih k (i + 1) _ (by omega) (by simp; omega) (by omega), List.append_assoc]
      rfl
    · rw [if_neg e, if_neg e, ih k (i + 1) _ (by omega) (by omega) (by omega)]
/-- The node of a class that is taken: the first that costs least. -/
def pick (n : List S114) (p : List Int) (i : List Int) (c : Int) : Int := (((memL p c 0 n.length).find? fun k => TI i (n.getD k.toNat z114) == rd i c).getD c)
theorem specChosen_run {n : List S114} {p : List Int} (hg : goodG n p = true) {s : List Int} (hb : Best n p s) (c : Nat) (hc : c < n.length) (d : Nat) : ∀ (k j : Nat), j + d = n.length → d + 4 < k →
    spec_l10Chosen.l0 k s (c : Int) n (n.length : Int) (j : Int) n p = some (((memL p (c : Int) j d).find? fun k => TI (s.map ph) (n.getD k.toNat z114) == rd (s.map ph) (c : Int)).getD (c : Int)) := by
  have hpl := gg_len hg
  induction d with
  | zero =>
    intro k j hj hk
    obtain ⟨k, rfl⟩ : ∃ m, k = m + 1 := ⟨k - 1, by omega⟩
    simp only [spec_l10Chosen.l0, memL]
    rw [if_neg (by omega)]
    rfl
  | succ d ih =>
    intro k j hj hk
    obtain ⟨k, rfl⟩ : ∃ m, k = m + 1 := ⟨k - 1, by omega⟩
    have hkd := gg_kids hg j (by omega)
    have hbf := best_facts hg hb j (by omega)
    have hl := hb.len
    simp only [spec_l10Chosen.l0, memL]
    rw [if_pos (by omega), if_pos (by omega), if_pos (by omega), if_pos (by omega), rd_nat, w64s j (by omega), ih k (j + 1) (by omega) (by omega)]
    by_cases e : p.getD j 0 = (c : Int)
    · rw [if_pos e, if_pos e, rdE_getD, node_f s hb.ok _ hkd.1 (fun c hc => by have := hkd.2 c hc; omega) k (by omega), Option.bind_some, if_pos (by omega), if_pos (by omega), hbf.1, List.find?_cons]
      rw [e] at hbf
      rw [hbf.2.1, Int.toNat_natCast]
      by_cases h : TI (s.map ph) (n.getD j z114) = rd (s.map ph) (c : Int)
      · rw [if_pos h, beq_iff_eq.2 h]
        rfl
      · rw [if_neg h, beq_eq_false_iff_ne.2 h]
    · rw [if_neg e, if_neg e]
theorem implChosen_run {n : List S114} {p : List Int} (hg : goodG n p = true) {i : List Int} (hi : okI i) (hl : i.length = n.length) (m : Int) (ml : List Int) (hml : ml.length ≤ 1048576) (hin : ∀ x ∈ ml, 0 ≤ x ∧ x < (n.length : Int) ∧ m ≤ TI i (n.getD x.toNat z114)) (e : Int) (d : Nat) : ∀ (k j : Nat) (x : Int), j + d = ml.length → d + 4 < k →
    ((0 ≤ x ∧ x < (n.length : Int) ∧ TI i (n.getD x.toNat z114) = m ∧ x = e) ∨ ((x < 0 ∨ (0 ≤ x ∧ x < (n.length : Int) ∧ m < TI i (n.getD x.toNat z114))) ∧ ((ml.drop j).find? fun k => TI i (n.getD k.toNat z114) == m) = some e)) →
    impl_EGraph_chosen.l0 k i x ml (ml.length : Int) (j : Int) n p = some e := by
  have hpl := gg_len hg
  have rdI : ∀ x : Int, 0 ≤ x → rd_T114 n x = n.getD x.toNat z114 := fun x _ => rfl
  have go : ∀ (x : Int) (k : Nat), 0 ≤ x → x < (n.length : Int) → 3 < k → impl_through.f k (rd_T114 n x).f0 (rd_T114 n x).f1 (rd_T114 n x).f2 i = some (TI i (n.getD x.toNat z114)) := fun x k h0 h1 hk => by
    have hkd := gg_kids hg x.toNat (by omega)
    exact through_f i hi _ hkd.1 (fun c hc => by have := hkd.2 c hc; omega) k hk
  induction d with
  | zero =>
    intro k j x hj hk h
    obtain ⟨k, rfl⟩ : ∃ m, k = m + 1 := ⟨k - 1, by omega⟩
    simp only [impl_EGraph_chosen.l0]
    rw [if_neg (by omega)]
    rcases h with h | ⟨-, h⟩
    · rw [h.2.2.2]
    · rw [List.drop_of_length_le (by omega)] at h
      exact absurd h (by simp)
  | succ d ih =>
    intro k j x hj hk h
    obtain ⟨k, rfl⟩ : ∃ m, k = m + 1 := ⟨k - 1, by omega⟩
    have hjl : j < ml.length := by omega
    have hy := hin _ (List.getElem_mem hjl)
    obtain ⟨y, hye⟩ : ∃ y, ml[j] = y := ⟨_, rfl⟩
    rw [List.drop_eq_getElem_cons hjl, hye, List.find?_cons] at h
    rw [hye] at hy
    simp only [impl_EGraph_chosen.l0]
    rw [if_pos (by omega), if_pos (by omega), if_pos (by omega), rd_nat, getD_lt ml j hjl, hye, w64s j (by omega)]
    rcases h with ⟨h0, h1, h2, h3⟩ | ⟨hx, h⟩
    · rw [if_neg (by omega), if_pos hy.1, if_pos hy.2.1, go y k hy.1 hy.2.1 (by omega), Option.bind_some, if_pos h0, if_pos h1, go x k h0 h1 (by omega), Option.bind_some, if_neg (by omega)]
      exact ih k (j + 1) x (by omega) (by omega) (.inl ⟨h0, h1, h2, h3⟩)
    · by_cases hm : TI i (n.getD y.toNat z114) = m
      · rw [beq_iff_eq.2 hm] at h
        have he : y = e := Option.some.inj h
        have hgo := ih k (j + 1) y (by omega) (by omega) (.inl ⟨hy.1, hy.2.1, hm, he⟩)
        rcases hx with hx | ⟨h0, h1, h2⟩
        · rw [if_pos hx]; exact hgo
        · rw [if_neg (by omega), if_pos hy.1, if_pos hy.2.1, go y k hy.1 hy.2.1 (by omega), Option.bind_some, if_pos h0, if_pos h1, go x k h0 h1 (by omega), Option.bind_some, if_pos (by omega)]
          exact hgo
      · rw [beq_eq_false_iff_ne.2 hm] at h
        have hgo := ih k (j + 1) y (by omega) (by omega) (.inr ⟨.inr ⟨hy.1, hy.2.1, by have := hy.2.2; omega⟩, h⟩)
        rcases hx with hx | ⟨h0, h1, h2⟩
        · rw [if_pos hx]; exact hgo
        · rw [if_neg (by omega), if_pos hy.1, if_pos hy.2.1, go y k hy.1 hy.2.1 (by omega), Option.bind_some, if_pos h0, if_pos h1, go x k h0 h1 (by omega), Option.bind_some]
          by_cases hlt : TI i (n.getD y.toNat z114) < TI i (n.getD x.toNat z114)
          · rw [if_pos hlt]; exact hgo
          · rw [if_neg hlt]; exact ih k (j + 1) x (by omega) (by omega) (.inr ⟨.inr ⟨h0, h1, h2⟩, h⟩)
theorem pick_some {n : List S114} {p : List Int} (hg : goodG n p = true) {s : List Int} (hb : Best n p s) (c : Nat) (hc : c < n.length) (hr : p.getD c 0 = (c : Int)) :
    ((memL p (c : Int) 0 n.length).find? fun k => TI (s.map ph) (n.getD k.toNat z114) == rd (s.map ph) (c : Int)) = some (pick n p (s.map ph) (c : Int)) := by
  unfold pick
  cases h : (memL p (c : Int) 0 n.length).find? fun k => TI (s.map ph) (n.getD k.toNat z114) == rd (s.map ph) (c : Int) with
  | some e => rfl
  | none =>
    obtain ⟨k, hk, h1, h2⟩ := best_min hg hb c hc hr
    rw [List.find?_eq_none] at h
    have := h (k : Int) ((memL_mem p (c : Int) n.length 0 (k : Int)).2 ⟨k, rfl, Nat.zero_le _, by omega, h1⟩)
    rw [Int.toNat_natCast, h2] at this
    exact absurd (beq_self_eq_true _) this
theorem chosen_f {n : List S114} {p : List Int} (hg : goodG n p = true) {s : List Int} (hb : Best n p s) (c : Nat) (hc : c < n.length) (hr : p.getD c 0 = (c : Int)) (k : Nat) (hk : 1000 < k) :
    spec_l10Chosen.f k n p s (c : Int) = some (pick n p (s.map ph) (c : Int)) ∧ impl_EGraph_chosen.f k n p (c : Int) (s.map ph) = some (pick n p (s.map ph) (c : Int)) := by
  have hpl := gg_len hg
  have hps := pick_some hg hb c hc hr
  constructor
  · unfold spec_l10Chosen.f
    have := specChosen_run hg hb c hc n.length k 0 (by omega) (by omega)
    rw [hps] at this
    exact this
  · unfold impl_EGraph_chosen.f impl_members.f
    have hm := members_run p (by omega) (c : Int) p.length k 0 [] (by omega) (by simp) (by omega)
    rw [List.nil_append] at hm
    rw [show impl_members.l0 k (c : Int) [] p (p.length : Int) 0 = some (memL p (c : Int) 0 p.length) from hm, Option.bind_some]
    have hlen := memL_len p (c : Int) p.length 0
    refine implChosen_run hg (ok_map hb.ok) (by rw [List.length_map]; exact hb.len) (rd (s.map ph) (c : Int)) (memL p (c : Int) 0 p.length) (by omega) ?_ _ (memL p (c : Int) 0 p.length).length k 0 (-1) (by omega) (by omega) (.inr ⟨.inl (by omega), ?_⟩)
    · intro x hx
      obtain ⟨j, rfl, -, h2, h3⟩ := (memL_mem p (c : Int) p.length 0 x).1 hx
      have := (best_facts hg hb j (by omega)).2.2
      rw [h3] at this
      exact ⟨by omega, by omega, this⟩
    · rw [List.drop_zero, hpl.1]
      exact hps
/-- A number is a class. -/
def isCls (n : List S114) (p : List Int) (a : Int) : Bool := decide (0 ≤ a ∧ a < (n.length : Int)) && rd p a == a
theorem isClass_f (n : List S114) (p : List Int) (hl : p.length = n.length) (hn : n.length ≤ 120) (a : Int) : spec_l7Class.f n p a = some (isCls n p a) ∧ impl_EGraph_isClass.f n p a = some (isCls n p a) := by
  unfold spec_l7Class.f impl_EGraph_isClass.f spec_l1In.f impl_within.f isCls
  rw [w64 _ (by omega) (by omega), w64 _ (by omega) (by omega), hl]
  by_cases h0 : a ≥ 0
  · by_cases h1 : a ≤ (n.length : Int) - 1
    · rw [if_pos h0, decide_eq_true h1, decide_eq_true (show 0 ≤ a ∧ a < (n.length : Int) by omega), Bool.true_and]
      simp only [Option.bind_some, if_true]
      rw [if_pos (by omega), if_pos (by omega)]
      exact ⟨rfl, rfl⟩
    · rw [if_pos h0, decide_eq_false h1, decide_eq_false (show ¬ (0 ≤ a ∧ a < (n.length : Int)) by omega), Bool.false_and]
      exact ⟨rfl, rfl⟩
  · rw [if_neg h0, decide_eq_false (show ¬ (0 ≤ a ∧ a < (n.length : Int)) by omega), Bool.false_and]
    exact ⟨rfl, rfl⟩

/-- What the nodes of a list cost. -/
def costL : List (Int × Int) → Int | [] => 0 | x :: l => costN x.1 + costL l
theorem costL_append (a b : List (Int × Int)) : costL (a ++ b) = costL a + costL b := by
  induction a with
  | nil => show costL b = 0 + costL b; omega
  | cons x a ih => show costN x.1 + costL (a ++ b) = costN x.1 + costL a + costL b; omega
theorem costL_len (l : List (Int × Int)) : (l.length : Int) ≤ costL l ∧ costL l ≤ 20 * (l.length : Int) := by
  induction l with
  | nil => exact ⟨Int.le_refl _, Int.le_refl _⟩
  | cons x l ih =>
    have := costN_pos x.1
    show ((l.length + 1 : Nat) : Int) ≤ costN x.1 + costL l ∧ costN x.1 + costL l ≤ 20 * ((l.length + 1 : Nat) : Int)
    omega
def sumI (i : List Int) : List Int → Int | [] => 0 | c :: l => rd i c + sumI i l
theorem sumI_pos {i : List Int} (h : okI i) (l : List Int) : 0 ≤ sumI i l := by
  induction l with
  | nil => exact Int.le_refl _
  | cons c l ih => have := (h c).1; show 0 ≤ rd i c + sumI i l; omega
theorem thr_le {i : List Int} (h : okI i) : ∀ (l : List Int) (acc : Int), 0 ≤ acc → thr i acc l ≤ acc + sumI i l := by
  intro l
  induction l with
  | nil => intro acc _; show acc ≤ acc + 0; omega
  | cons c l ih =>
    intro acc ha
    have hc := h c
    have h1 := ih (capB (acc + rd i c)) (capB_range (by omega)).1
    have h2 : capB (acc + rd i c) ≤ acc + rd i c := by unfold capB; split <;> omega
    show thr i (capB (acc + rd i c)) l ≤ acc + (rd i c + sumI i l)
    omega
theorem thr_exact {i : List Int} (h : okI i) : ∀ (l : List Int) (acc : Int), 0 ≤ acc → thr i acc l < 1125899906842624 → thr i acc l = acc + sumI i l ∧ ∀ c ∈ l, acc + rd i c ≤ thr i acc l := by
  intro l
  induction l with
  | nil => intro acc _ _; exact ⟨by show acc = acc + 0; omega, fun c hc => absurd hc (by simp)⟩
  | cons c l ih =>
    intro acc ha ht
    have hc := h c
    have ht' : thr i (capB (acc + rd i c)) l < 1125899906842624 := ht
    have hcap : capB (acc + rd i c) = acc + rd i c := by
      unfold capB
      by_cases hx : acc + rd i c > 1125899906842624
      · exfalso
        unfold capB at ht'
        rw [if_pos hx, thr_top h] at ht'
        omega
      · rw [if_neg hx]
    rw [hcap] at ht'
    have h1 := ih (acc + rd i c) (by omega) ht'
    have e : thr i acc (c :: l) = thr i (acc + rd i c) l := by show thr i (capB (acc + rd i c)) l = _; rw [hcap]
    have hs := sumI_pos h l
    rw [e]
    refine ⟨by show _ = acc + (rd i c + sumI i l); omega, fun x hx => ?_⟩
    rcases List.mem_cons.1 hx with rfl | hx
    · omega
    · have := h1.2 x hx; omega
theorem countP_lt {α : Type} {p q : α → Bool} : ∀ {l : List α} {y : α}, (∀ x ∈ l, p x = true → q x = true) → y ∈ l → q y = true → p y = false → l.countP p < l.countP q := by
  intro l
  induction l with
  | nil => intro y _ h; exact absurd h (by simp)
  | cons x l ih =>
    intro y h hy hq hp
    have hle : l.countP p ≤ l.countP q := List.countP_mono_left (fun z hz => h z (List.mem_cons_of_mem _ hz))
    rw [List.countP_cons, List.countP_cons]
    rcases List.mem_cons.1 hy with rfl | hy
    · rw [hq, hp]; simp; omega
    · have h1 := ih (fun z hz => h z (List.mem_cons_of_mem _ hz)) hy hq hp
      by_cases hx : p x = true
      · rw [hx, h x (List.mem_cons_self ..) hx]; omega
      · have hx' : p x = false := by simpa using hx
        rw [hx']
        simp only [Bool.false_eq_true, if_false]
        omega
/-- By what the classes are ordered: cost; a class whose cost is at the bound: its number. -/
def key (i : List Int) (c : Nat) : Int := if rd i (c : Int) < 1125899906842624 then rd i (c : Int) else 1125899906842624 + (c : Int)
def rank (i : List Int) (n c : Nat) : Nat := (List.range n).countP fun x => decide (key i x < key i c)
theorem rank_lt {i : List Int} {n x c : Nat} (hx : x < n) (h : key i x < key i c) : rank i n x < rank i n c := by
  refine countP_lt (y := x) (fun z _ hz => ?_) (List.mem_range.2 hx) (decide_eq_true h) (decide_eq_false (by omega))
  have := of_decide_eq_true hz
  exact decide_eq_true (by omega)
theorem rank_le (i : List Int) (n c : Nat) : rank i n c ≤ n := by
  have : rank i n c ≤ (List.range n).length := List.countP_le_length
  rwa [List.length_range] at this
theorem memL_first (p : List Int) (c : Nat) (P : Int → Bool) (hP : P (c : Int) = true) (hr : p.getD c 0 = (c : Int)) (d : Nat) : ∀ i, i ≤ c → c < i + d → (∀ k, i ≤ k → k < c → p.getD k 0 ≠ (c : Int)) → (memL p (c : Int) i d).find? P = some (c : Int) := by
  induction d with
  | zero => intro i h1 h2; omega
  | succ d ih =>
    intro i h1 h2 h3
    simp only [memL]
    by_cases e : i = c
    · subst e
      rw [if_pos hr, List.find?_cons, hP]
    · rw [if_neg (h3 i (Nat.le_refl _) (by omega))]
      exact ih (i + 1) (by omega) (by omega) (fun k hk => h3 k (by omega))
theorem pick_facts {n : List S114} {p : List Int} (hg : goodG n p = true) {s : List Int} (hb : Best n p s) (c : Nat) (hc : c < n.length) (hr : p.getD c 0 = (c : Int)) :
    ∃ j : Nat, pick n p (s.map ph) (c : Int) = (j : Int) ∧ j < n.length ∧ TI (s.map ph) (n.getD j z114) = rd (s.map ph) (c : Int) ∧ (¬ rd (s.map ph) (c : Int) < 1125899906842624 → j = c) := by
  have hp := pick_some hg hb c hc hr
  have hm := (memL_mem p (c : Int) n.length 0 _).1 (List.mem_of_find?_eq_some hp)
  have ht := List.find?_some hp
  obtain ⟨j, hj, -, h2, h3⟩ := hm
  rw [hj] at ht hp
  rw [Int.toNat_natCast, beq_iff_eq] at ht
  refine ⟨j, hj, by omega, ht, fun hcap => ?_⟩
  have hok := ok_map hb.ok
  have hb1 := (best_facts hg hb c hc).2.2
  rw [hr] at hb1
  have hti := TI_range hok (n.getD c z114)
  have hrc := hok (c : Int)
  have hf := memL_first p c (fun k => TI (s.map ph) (n.getD k.toNat z114) == rd (s.map ph) (c : Int)) (by rw [Int.toNat_natCast, beq_iff_eq]; omega) hr n.length 0 (Nat.zero_le _) (by omega) (fun k _ hk he => by
    have hgk := (gg_par hg k (by omega)).2.1
    rw [he] at hgk
    omega)
  rw [hf] at hp
  have := Option.some.inj hp
  omega
theorem mapO_map {α β : Type} {f : α → Option β} {F : α → β} : ∀ {l : List α}, (∀ y ∈ l, f y = some (F y)) → mapO f l = some (l.map F) := by
  intro l
  induction l with
  | nil => intro _; rfl
  | cons x l ih =>
    intro h
    show (f x).bind (fun y => (mapO f l).map fun ys => y :: ys) = _
    rw [h x (List.mem_cons_self ..), ih (fun y hy => h y (List.mem_cons_of_mem _ hy))]
    rfl
theorem flats_cost {i : List Int} {F : Int → Tree.Tr} : ∀ {l : List Int}, (∀ y ∈ l, rd i y ≤ costL (F y).flat) → sumI i l ≤ costL (Tree.flats (l.map F)) := by
  intro l
  induction l with
  | nil => intro _; exact Int.le_refl _
  | cons x l ih =>
    intro h
    have h1 := h x (List.mem_cons_self ..)
    have h2 := ih (fun y hy => h y (List.mem_cons_of_mem _ hy))
    show rd i x + sumI i l ≤ costL ((F x).flat ++ Tree.flats (l.map F))
    rw [costL_append]
    omega
theorem flats_cost_eq {i : List Int} {F : Int → Tree.Tr} : ∀ {l : List Int}, (∀ y ∈ l, costL (F y).flat = rd i y) → costL (Tree.flats (l.map F)) = sumI i l := by
  intro l
  induction l with
  | nil => intro _; rfl
  | cons x l ih =>
    intro h
    have h1 := h x (List.mem_cons_self ..)
    have h2 := ih (fun y hy => h y (List.mem_cons_of_mem _ hy))
    show costL ((F x).flat ++ Tree.flats (l.map F)) = rd i x + sumI i l
    rw [costL_append]
    omega
theorem toP_ofP (l : List (Int × Int)) : toP (ofP l) = l := by
  unfold toP ofP
  rw [List.map_map]
  conv => rhs; rw [← List.map_id l]
  rfl
theorem build_kids {ks : List Tree.Tr} (h : ∀ k ∈ ks, ∀ s, ∃ o, Tree.build k.flat s = some (s.1 ++ [k], s.2 ++ o)) : ∀ s, ∃ o, Tree.build (Tree.flats ks) s = some (s.1 ++ ks, s.2 ++ o) := by
  induction ks with
  | nil => intro s; exact ⟨[], by rw [List.append_nil, List.append_nil]; rfl⟩
  | cons k ks ih =>
    intro s
    obtain ⟨o1, h1⟩ := h k (List.mem_cons_self ..) s
    obtain ⟨o2, h2⟩ := ih (fun x hx => h x (List.mem_cons_of_mem _ hx)) (s.1 ++ [k], s.2 ++ o1)
    refine ⟨o1 ++ o2, ?_⟩
    show Tree.build (k.flat ++ Tree.flats ks) s = _
    rw [Tree.build_append, h1, Option.bind_some, h2]
    simp
theorem build_good {T : Tree.Tr} (h : Tree.Good T) : ∀ s, ∃ o, Tree.build T.flat s = some (s.1 ++ [T], s.2 ++ o) := by
  induction h with
  | mk o n ks h1 h2 h3 ih =>
    intro s
    obtain ⟨o1, hk⟩ := build_kids ih s
    refine ⟨o1 ++ [.mk o n ks], ?_⟩
    show Tree.build (Tree.flats ks ++ [(o, n)]) s = _
    rw [Tree.build_append, hk, Option.bind_some]
    show (Tree.step (s.1 ++ ks, s.2 ++ o1) (o, n)).bind (Tree.build []) = _
    unfold Tree.step
    have ha : (Tree.arity o).toNat = ks.length := by omega
    have hlen : (s.1 ++ ks).length - (Tree.arity o).toNat = s.1.length := by rw [List.length_append, ha]; omega
    simp only
    rw [if_pos ⟨h1, by rw [List.length_append]; omega⟩, hlen, List.take_left, List.drop_left, Option.bind_some, List.append_assoc]
    rfl
theorem good_isSome {T : Tree.Tr} (h : Tree.Good T) (hl : T.flat.length ≤ 40) : (Tree.treeOf T.flat).isSome = true := by
  obtain ⟨o, hb⟩ := build_good h ([], [])
  rw [treeOf_isSome, hb, decide_eq_true ⟨Tree.flat_pos T, hl⟩]
  rfl
theorem long_none {t : List (Int × Int)} (h : 40 < t.length) : (Tree.treeOf t).isSome = false := by
  rw [treeOf_isSome, decide_eq_false (by omega), Bool.false_and]
/-- The reference's loop over the kids of a node. -/
theorem term_loop {n : List S114} {p s : List Int} {L : List Int} (hL : L.length ≤ 1000) {F : Int → Tree.Tr} {G : Int → List S96} (B KK : Nat) (hB : B ≤ 1000000) (f0 f1 : Int)
    (hK : ∀ y ∈ L, ∀ K, KK ≤ K → spec_l10Term.f K n p s y = some (G y)) (hG : ∀ y ∈ L, (G y = ofP (F y).flat ∨ (40 < (F y).flat.length ∧ 40 < (G y).length)) ∧ (G y).length ≤ B) (d : Nat) :
    ∀ (j : Nat), j + d = L.length → (Tree.flats ((L.take j).map F)).length ≤ 40 → ∃ t, (∀ K, KK + d + 1 ≤ K → spec_l10Term.l0 K s (ofP (Tree.flats ((L.take j).map F))) L (L.length : Int) (j : Int) n p f0 f1 L = some t) ∧
      (t = ofP (Tree.flats (L.map F) ++ [(f0, f1)]) ∨ (40 < (Tree.flats (L.map F) ++ [(f0, f1)]).length ∧ 40 < t.length)) ∧ t.length ≤ 41 + B := by
  induction d with
  | zero =>
    intro j hj ha
    have e : L.take j = L := by rw [List.take_of_length_le (by omega)]
    rw [e] at ha ⊢
    refine ⟨ofP (Tree.flats (L.map F) ++ [(f0, f1)]), fun K hk => ?_, .inl rfl, by rw [ofP_len, List.length_append]; simp; omega⟩
    obtain ⟨K, rfl⟩ : ∃ m, K = m + 1 := ⟨K - 1, by omega⟩
    simp only [spec_l10Term.l0]
    rw [if_neg (by omega), if_pos (by rw [ofP_len]; omega), ofP_append]
    rfl
  | succ d ih =>
    intro j hj ha
    have hjl : j < L.length := by omega
    have hm := List.getElem_mem hjl
    have hg := hG _ hm
    have hsp : Tree.flats ((L.take (j + 1)).map F) = Tree.flats ((L.take j).map F) ++ (F L[j]).flat := by
      rw [List.take_succ_eq_append_getElem hjl, List.map_append, Tree.flats_append]
      congr 1
      show (F L[j]).flat ++ [] = _
      rw [List.append_nil]
    have hle : (Tree.flats ((L.take (j + 1)).map F)).length ≤ (Tree.flats (L.map F)).length := by rw [List.map_take]; exact Tree.flats_take_le _ _
    have hstep : ∀ K, KK + (d + 1) + 1 ≤ K + 1 → spec_l10Term.l0 (K + 1) s (ofP (Tree.flats ((L.take j).map F))) L (L.length : Int) (j : Int) n p f0 f1 L =
        (if ((ofP (Tree.flats ((L.take j).map F)) ++ G L[j]).length : Int) > 40 then some (ofP (Tree.flats ((L.take j).map F)) ++ G L[j]) else spec_l10Term.l0 K s (ofP (Tree.flats ((L.take j).map F)) ++ G L[j]) L (L.length : Int) ((j + 1 : Nat) : Int) n p f0 f1 L) := by
      intro K hk
      simp only [spec_l10Term.l0]
      rw [if_pos (by omega), if_pos (by omega), if_pos (by omega), rd_nat, getD_lt L j hjl, hK _ hm K (by omega), Option.bind_some, if_pos (by rw [ofP_len]; have := hg.2; omega), w64s j (by omega)]
      rfl
    by_cases hcut : ((ofP (Tree.flats ((L.take j).map F)) ++ G L[j]).length : Int) > 40
    · refine ⟨ofP (Tree.flats ((L.take j).map F)) ++ G L[j], fun K hk => ?_, .inr ⟨?_, by omega⟩, by rw [List.length_append, ofP_len]; have := hg.2; omega⟩
      · obtain ⟨K, rfl⟩ : ∃ m, K = m + 1 := ⟨K - 1, by omega⟩
        rw [hstep K hk, if_pos hcut]
      · rw [hsp] at hle
        rw [List.length_append] at hcut hle ⊢
        rw [ofP_len] at hcut
        rcases hg.1 with e | e
        · rw [e, ofP_len] at hcut
          omega
        · omega
    · rcases hg.1 with e | e
      · have hy : ofP (Tree.flats ((L.take j).map F)) ++ G L[j] = ofP (Tree.flats ((L.take (j + 1)).map F)) := by rw [hsp, ofP_append, e]
        rw [hy] at hcut hstep
        rw [ofP_len] at hcut
        obtain ⟨t, h1, h2⟩ := ih (j + 1) (by omega) (by omega)
        refine ⟨t, fun K hk => ?_, h2⟩
        obtain ⟨K, rfl⟩ : ∃ m, K = m + 1 := ⟨K - 1, by omega⟩
        rw [hstep K hk, ofP_len, if_neg hcut]
        exact h1 K (by omega)
      · rw [List.length_append] at hcut
        omega
/-- What the reference's list and the program's tree of a class have to do with each other. -/
theorem ext_key {n : List S114} {p : List Int} (hg : goodG n p = true) {s : List Int} (hb : Best n p s) (r : Nat) : ∀ c : Nat, c < n.length → p.getD c 0 = (c : Int) → rank (s.map ph) n.length c = r →
    ∃ (T : Tree.Tr) (t : List S96), Tree.Good T ∧ rd (s.map ph) (c : Int) ≤ costL T.flat ∧ (rd (s.map ph) (c : Int) < 1125899906842624 → costL T.flat = rd (s.map ph) (c : Int)) ∧
      (∀ K D, 1000 < K → r < D → exT K n p (s.map ph) D (c : Int) = some T) ∧ (∀ K, 5 * r + 2000 ≤ K → spec_l10Term.f K n p s (c : Int) = some t) ∧ (t = ofP T.flat ∨ (40 < T.flat.length ∧ 40 < t.length)) ∧ t.length ≤ 41 * (r + 1) := by
  induction r using Nat.strongRecOn with
  | _ r ih =>
    intro c hc hr hrk
    have hpl := gg_len hg
    have hok := ok_map hb.ok
    have hrl := rank_le (s.map ph) n.length c
    obtain ⟨j, hpk, hj, hti, hcap⟩ := pick_facts hg hb c hc hr
    have hkd := gg_kids hg j hj
    obtain ⟨x, hx⟩ : ∃ x, x = n.getD j z114 := ⟨_, rfl⟩
    rw [← hx] at hti hkd
    have hen : enOK x j = true := by
      unfold goodG at hg
      simp only [Bool.and_eq_true, decide_eq_true_eq] at hg
      rw [hx]
      exact loose_at hg.1.1.2 j hj
    have hcost := costN_pos x.f0
    have hex : ∀ y : Int, ∃ z : Tree.Tr × List S96, y ∈ x.f2 → ∃ r', r' < r ∧ (Tree.Good z.1 ∧ rd (s.map ph) y ≤ costL z.1.flat ∧ (rd (s.map ph) y < 1125899906842624 → costL z.1.flat = rd (s.map ph) y) ∧
      (∀ K D, 1000 < K → r' < D → exT K n p (s.map ph) D y = some z.1) ∧ (∀ K, 5 * r' + 2000 ≤ K → spec_l10Term.f K n p s y = some z.2) ∧ (z.2 = ofP z.1.flat ∨ (40 < z.1.flat.length ∧ 40 < z.2.length)) ∧ z.2.length ≤ 41 * (r' + 1)) := by
      intro y
      by_cases hy : y ∈ x.f2
      · obtain ⟨h0, h1, h2⟩ := hkd.2 y hy
        obtain ⟨m, rfl⟩ := Int.eq_ofNat_of_zero_le h0
        have hmr : p.getD m 0 = (m : Int) := by rw [← rd_nat]; exact h2
        have hkey : key (s.map ph) m < key (s.map ph) c := by
          unfold key
          by_cases hu : rd (s.map ph) (c : Int) < 1125899906842624
          · have ht := (thr_exact hok x.f2 (costN x.f0) (by omega) (by show TI (s.map ph) x < _; omega)).2 (m : Int) hy
            have ht' : costN x.f0 + rd (s.map ph) (m : Int) ≤ TI (s.map ph) x := ht
            rw [if_pos hu, if_pos (by omega)]
            omega
          · have := hcap hu
            rw [if_neg hu]
            split <;> omega
        have hlt := rank_lt (show m < n.length by omega) hkey
        obtain ⟨T, t, h⟩ := ih _ (by omega) m (by omega) hmr rfl
        exact ⟨(T, t), fun _ => ⟨_, by omega, h⟩⟩
      · exact ⟨(.mk 0 0 [], []), fun h => absurd h hy⟩
    obtain ⟨f, hf⟩ := Classical.skolem.1 hex
    obtain ⟨F, hF⟩ : ∃ F : Int → Tree.Tr, F = fun y => (f y).1 := ⟨_, rfl⟩
    obtain ⟨G, hG⟩ : ∃ G : Int → List S96, G = fun y => (f y).2 := ⟨_, rfl⟩
    have hF' : ∀ y, (f y).1 = F y := fun y => by rw [hF]
    have hG' : ∀ y, (f y).2 = G y := fun y => by rw [hG]
    have hloop := term_loop (n := n) (p := p) (s := s) (L := x.f2) (by omega) (F := F) (G := G) (41 * r) (5 * r + 1995) (by omega) x.f0 x.f1
      (fun y hy K hK => by
        obtain ⟨r', hr', h⟩ := hf y hy
        rw [← hG']
        exact h.2.2.2.2.1 K (by omega))
      (fun y hy => by
        obtain ⟨r', hr', h⟩ := hf y hy
        rw [← hG', ← hF']
        exact ⟨h.2.2.2.2.2.1, by have := h.2.2.2.2.2.2; omega⟩) x.f2.length 0 (by omega) (by simp [Tree.flats])
    obtain ⟨t, ht1, ht2, ht3⟩ := hloop
    refine ⟨.mk x.f0 x.f1 (x.f2.map F), t, ?_, ?_, ?_, ?_, ?_, ht2, by omega⟩
    · unfold enOK at hen
      simp only [Bool.and_eq_true, beq_iff_eq] at hen
      refine .mk _ _ _ hen.1.1 (by rw [List.length_map]; exact hen.1.2) (fun k hk => ?_)
      obtain ⟨y, hy, rfl⟩ := List.mem_map.1 hk
      obtain ⟨r', _, h⟩ := hf y hy
      rw [← hF']
      exact h.1
    · have h1 := thr_le hok x.f2 (costN x.f0) (by omega)
      have h2 := flats_cost (i := s.map ph) (F := F) (l := x.f2) (fun y hy => by
        obtain ⟨r', _, h⟩ := hf y hy
        rw [← hF']
        exact h.2.1)
      have h3 : TI (s.map ph) x ≤ costN x.f0 + sumI (s.map ph) x.f2 := h1
      show _ ≤ costL (Tree.flats (x.f2.map F) ++ [(x.f0, x.f1)])
      rw [costL_append]
      show _ ≤ _ + (costN x.f0 + 0)
      omega
    · intro hu
      have h1 := thr_exact hok x.f2 (costN x.f0) (by omega) (by show TI (s.map ph) x < _; omega)
      have h3 : TI (s.map ph) x = costN x.f0 + sumI (s.map ph) x.f2 := h1.1
      have h2 := flats_cost_eq (i := s.map ph) (F := F) (l := x.f2) (fun y hy => by
        obtain ⟨r', _, h⟩ := hf y hy
        have h4 := h1.2 y hy
        have h5 : costN x.f0 + rd (s.map ph) y ≤ TI (s.map ph) x := h4
        rw [← hF']
        exact h.2.2.1 (by omega))
      show costL (Tree.flats (x.f2.map F) ++ [(x.f0, x.f1)]) = _
      rw [costL_append]
      show _ + (costN x.f0 + 0) = _
      omega
    · intro K D hK hD
      obtain ⟨D, rfl⟩ : ∃ m, D = m + 1 := ⟨D - 1, by omega⟩
      have hch := (chosen_f hg hb c hc hr K hK).2
      rw [hpk] at hch
      show (impl_EGraph_chosen.f K n p (c : Int) (s.map ph)).bind _ = _
      rw [hch, Option.bind_some, if_pos ⟨by omega, by omega⟩, rdE_getD, ← hx, mapO_map (F := F) (fun y hy => by
        obtain ⟨r', hr', h⟩ := hf y hy
        rw [← hF']
        exact h.2.2.2.1 K D hK (by omega))]
      rfl
    · intro K hK
      obtain ⟨K, rfl⟩ : ∃ m, K = m + 1 := ⟨K - 1, by omega⟩
      have hch := (chosen_f hg hb c hc hr K (by omega)).1
      rw [hpk] at hch
      simp only [spec_l10Term.f]
      rw [hch, Option.bind_some, if_pos (by omega), if_pos (by omega), rdE_getD, ← hx]
      have := ht1 K (by have := hkd.1; omega)
      exact this
theorem op_same (k : Nat) (a : Int) (hk : 0 < k) : spec_l10Op.f k a = some (costN a) ∧ impl_cost.f k a = some (costN a) := ⟨specOp_f a k hk, implCost_f a k hk⟩
theorem cost_run (t : List S96) (hn : t.length ≤ 1048576) (d : Nat) : ∀ (k i : Nat) (x : Int), i + d = t.length → d + 1 < k →
    ∃ r, spec_l10Cost.l0 k x t (t.length : Int) (i : Int) = some r ∧ impl_costOf.l0 k x t (t.length : Int) (i : Int) = some r := by
  induction d with
  | zero =>
    intro k i x hi hk
    obtain ⟨k, rfl⟩ : ∃ m, k = m + 1 := ⟨k - 1, by omega⟩
    simp only [spec_l10Cost.l0, impl_costOf.l0]
    rw [if_neg (by omega), if_neg (by omega)]
    exact ⟨_, rfl, rfl⟩
  | succ d ih =>
    intro k i x hi hk
    obtain ⟨k, rfl⟩ : ∃ m, k = m + 1 := ⟨k - 1, by omega⟩
    simp only [spec_l10Cost.l0, impl_costOf.l0]
    simp only [if_pos (show (i : Int) < (t.length : Int) by omega), if_pos (show 0 ≤ (i : Int) by omega)]
    obtain ⟨h1, h2⟩ := op_same k ((rd_T96 t (i : Int)).f0) (by omega)
    rw [h1, h2, Option.bind_some, Option.bind_some, wn64s i (by omega)]
    exact ih k (i + 1) _ (by omega) (by omega)
theorem extract_key (n : List S114) (p : List Int) (hn : n.length ≤ 1048576) (hin : ∀ x ∈ n, x.f2.length ≤ 1048576) (hp : p.length ≤ 1048576) (a : Int) (k : Nat) (hk : 200000000000000000000000 ≤ k) : ∃ r : List S96 × Int × Bool, r.1.length ≤ 40 ∧ spec_Extract.f k n p a = some r ∧ impl_Extract.f k n p a = some r := by
  obtain ⟨k, rfl⟩ : ∃ m, k = m + 1 := ⟨k - 1, by omega⟩
  unfold spec_Extract.f impl_Extract.f
  rw [specGG_f n p hn hin hp (k + 1) (by omega), implGG_f n p hn hp (k + 1) (by omega)]
  simp only [Option.bind_some, spec_Extract.j0]
  cases hg : goodG n p with
  | false => exact ⟨([], 0, false), by simp, rfl, rfl⟩
  | true =>
    have hpl := gg_len hg
    obtain ⟨c1, c2⟩ := isClass_f n p hpl.1 hpl.2 a
    simp only [if_true, c1, c2, Option.bind_some]
    cases hc : isCls n p a with
    | false => exact ⟨([], 0, false), by simp, rfl, rfl⟩
    | true =>
      obtain ⟨s, hb, hf⟩ := best_f hg
      have h1 := (hf k (by omega)).1
      have h2 := (hf (k + 1) (by omega)).2
      unfold isCls at hc
      rw [Bool.and_eq_true, decide_eq_true_eq, beq_iff_eq] at hc
      obtain ⟨c, rfl⟩ := Int.eq_ofNat_of_zero_le hc.1.1
      have hr : p.getD c 0 = (c : Int) := by have := hc.2; rw [rd_nat] at this; exact this
      have hrl := rank_le (s.map ph) n.length c
      obtain ⟨T, t, hT, hle, heq, hex, hsp, hor, htl⟩ := ext_key hg hb _ c (by omega) hr rfl
      have ht1 := hsp k (by omega)
      have ht2 := hex (k + 1) 1000 (by omega) (by omega)
      have hlen := costL_len T.flat
      have hil : (s.map ph).length = n.length := by rw [List.length_map]; exact hb.len
      simp only [Bool.not_true, Bool.false_eq_true, if_false]
      rw [h1, h2, Option.bind_some, Option.bind_some, ht1, Option.bind_some, specGood_f t (by omega) k (by omega), Option.bind_some, if_pos (show 0 ≤ (c : Int) ∧ (c : Int) < ((s.map ph).length : Int) from by omega)]
      by_cases h8 : 800 < rd (s.map ph) (c : Int)
      · have hno : (Tree.treeOf (toP t)).isSome = false := long_none (by
          rw [toP_len]
          rcases hor with e | e
          · rw [e, ofP_len]; omega
          · omega)
        rw [if_pos h8, hno]
        exact ⟨([], 0, false), by simp, rfl, rfl⟩
      · have hcu := heq (by omega)
        have hsz : (∀ x ∈ n, x.f2.length ≤ 1000000) ∧ T.flat.length ≤ 1000000 := by
          refine ⟨fun x hx => ?_, by omega⟩
          obtain ⟨j, hj, rfl⟩ := List.getElem_of_mem hx
          have := (gg_kids hg j hj).1
          rw [List.getD_eq_getElem?_getD, List.getElem?_eq_getElem hj] at this
          have h3 : n[j].f2.length ≤ 3 := this
          omega
        rw [if_neg h8, ht2, Option.bind_some, if_pos hsz]
        by_cases h40 : T.flat.length ≤ 40
        · have e : t = ofP T.flat := hor.resolve_right (fun h => by omega)
          subst e
          rw [toP_ofP, good_isSome hT h40, if_pos rfl, if_pos h40]
          obtain ⟨v, hv1, hv2⟩ := cost_run (ofP T.flat) (by rw [ofP_len]; omega) (ofP T.flat).length k 0 0 (by omega) (by rw [ofP_len]; omega)
          obtain ⟨v', hv1', hv2'⟩ := cost_run (ofP T.flat) (by rw [ofP_len]; omega) (ofP T.flat).length (k + 1) 0 0 (by omega) (by rw [ofP_len]; omega)
          have hvv : v' = v := by
            have hm : ∀ (d i : Nat) (x : Int) (k k' : Nat), i + d = (ofP T.flat).length → d + 1 < k → d + 1 < k' → impl_costOf.l0 k x (ofP T.flat) ((ofP T.flat).length : Int) (i : Int) = impl_costOf.l0 k' x (ofP T.flat) ((ofP T.flat).length : Int) (i : Int) := by
              intro d
              induction d with
              | zero =>
                intro i x k k' hi hk hk'
                obtain ⟨k, rfl⟩ : ∃ m, k = m + 1 := ⟨k - 1, by omega⟩
                obtain ⟨k', rfl⟩ : ∃ m, k' = m + 1 := ⟨k' - 1, by omega⟩
                simp only [impl_costOf.l0]
                rw [if_neg (by omega), if_neg (by omega)]
              | succ d ih =>
                intro i x k k' hi hk hk'
                obtain ⟨k, rfl⟩ : ∃ m, k = m + 1 := ⟨k - 1, by omega⟩
                obtain ⟨k', rfl⟩ : ∃ m, k' = m + 1 := ⟨k' - 1, by omega⟩
                simp only [impl_costOf.l0]
                simp only [if_pos (show (i : Int) < ((ofP T.flat).length : Int) by omega), if_pos (show 0 ≤ (i : Int) by omega)]
                rw [implCost_f _ k (by omega), implCost_f _ k' (by omega), Option.bind_some, Option.bind_some, wn64s i (by rw [ofP_len] at hi; omega)]
                exact ih (i + 1) _ k k' (by omega) (by omega) (by omega)
            have := hm (ofP T.flat).length 0 0 (k + 1) k (by omega) (by rw [ofP_len]; omega) (by rw [ofP_len]; omega)
            rw [hv2', hv2] at this
            exact Option.some.inj this
          subst hvv
          refine ⟨(ofP T.flat, v', true), by rw [ofP_len]; exact h40, ?_, ?_⟩
          · unfold spec_l10Cost.f
            rw [show (0 : Int) = ((0 : Nat) : Int) from rfl] at *
            rw [hv1]
            rfl
          · unfold impl_costOf.f
            rw [show (0 : Int) = ((0 : Nat) : Int) from rfl] at *
            rw [hv2']
            rfl
        · have hno : (Tree.treeOf (toP t)).isSome = false := long_none (by
            rw [toP_len]
            rcases hor with e | e
            · rw [e, ofP_len]; omega
            · omega)
          rw [if_neg h40, hno]
          exact ⟨([], 0, false), by simp, rfl, rfl⟩
theorem FnExactExtract : RdFnExactExtract.Pure := by
  rintro ⟨n, p⟩ a ⟨hn, hp⟩ hl hl2 _
  simp only at hn hp hl hl2 ⊢
  obtain ⟨K, hK⟩ : ∃ K : Nat, K = 200000000000000000000000 := ⟨_, rfl⟩
  refine ⟨K, ?_⟩
  unfold laws_FnExactExtract.f
  obtain ⟨t, ht, hh⟩ := szG_f n p 1048576 (by omega) (by omega) hl (fun x hx => (hn.2 x hx).2.2.1) hl2 K (by omega)
  rw [ht, Option.bind_some]
  by_cases h : t < 0
  · rw [if_pos h]
  · obtain ⟨_, _, h1, h2, h3, h4⟩ := hh.resolve_left h
    have hlen : (n.map cvE).length = n.length := List.length_map _
    have hW := enW_cv n h1 h4
    have hto := toG_f n p h1 h2 h3 K (by omega)
    have hin := cvE_len n h2
    obtain ⟨r, hr, hs, hi⟩ := extract_key (n.map cvE) p (by omega) hin h3 a K (by omega)
    have hq := eqG_f (n.map cvE) p (by omega) hin h3 K (by omega)
    have he := eqN_f r.1 (by omega) K (by omega)
    have hm := markN_f r.1 (by omega) K (by omega)
    have hd := heldN_f r.1.length (by omega) K (by omega)
    generalize n.map cvE = L at *
    simp only [if_neg h, hto, hs, hi, hq, he, hm, hd, Option.bind_some]
    exact if_pos ⟨⟨trivial, trivial, trivial, trivial⟩, by omega, by omega, by omega, trivial⟩

end Go.Proofs.Ytakblgcheakbnaa.Pure
