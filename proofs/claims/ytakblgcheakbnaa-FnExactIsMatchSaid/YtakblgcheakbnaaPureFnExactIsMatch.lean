/- The program's IsMatch and the reference's answer alike at every graph, every list of nodes, every number and every bind; no condition. -/
import Derived.Test.YtakblgcheakbnaaPFnExactIsMatchx14
import Derived.Test.YtakblgcheakbnaaRdFnExactIsMatch
set_option linter.unusedVariables false
set_option linter.unusedSimpArgs false
namespace Go.Proofs.Ytakblgcheakbnaa.Pure
open Go.RowKit Go.Proofs.Ytakblgcheakbnaa.PFnExactIsMatch Go.Proofs.YtakblgcheakbnaaW.PrintWords Go.Proofs.YtakblgcheakbnaaW.PrintLast Go.Proofs.YtakblgcheakbnaaW.PrintMore

theorem wn64s (i : Nat) (h : i ≤ 140737488355328) : wrap64 ((i : Int) + 1) = ((i + 1 : Nat) : Int) := by unfold wrap64; omega
def cvN (x : S98) : S96 := ⟨x.f0, x.f1⟩
theorem rdN_nat (l : List S96) (i : Nat) : rd_T96 l (i : Int) = l.getD i z96 := by simp [rd_T96]
theorem szN_f (l : List S98) (m : Int) (hm0 : 0 ≤ m) (hm : m ≤ 1048576) (hl : l.length ≤ 9223372036854775807) : laws_szNodeS.f l m = some (if m - (l.length : Int) < 0 then -1 else m - (l.length : Int)) := by
  unfold laws_szNodeS.f
  have e : wrap64 (m - (l.length : Int)) = m - (l.length : Int) := by unfold wrap64; omega
  rw [e]
  split <;> rfl
theorem toN_run (x0 : List S98) (hn : x0.length ≤ 140737488351232) (d : Nat) : ∀ (k i : Nat) (x3 : List S96), i + d = x0.length → x3.length = x0.length → (∀ j, j < i → x3[j]? = (x0.map cvN)[j]?) → d < k →
    laws_toNodeS.l0 k x0 x3 (i : Int) = some (x0.map cvN) := by
  induction d with
  | zero =>
    intro k i x3 hi hl hj hk
    obtain ⟨k, rfl⟩ : ∃ m, k = m + 1 := ⟨k - 1, by omega⟩
    simp only [laws_toNodeS.l0]
    rw [if_neg (by omega)]
    congr 1
    apply List.ext_getElem?
    intro j
    by_cases h : j < i
    · exact hj j h
    · rw [List.getElem?_eq_none (by omega), List.getElem?_eq_none (by rw [List.length_map]; omega)]
  | succ d ih =>
    intro k i x3 hi hl hj hk
    obtain ⟨k, rfl⟩ : ∃ m, k = m + 1 := ⟨k - 1, by omega⟩
    simp only [laws_toNodeS.l0, laws_toNode.f, Option.bind_some]
    rw [if_pos (by omega), if_pos (by omega), if_pos (by omega), wn64s i (by omega)]
    refine ih k (i + 1) _ (by omega) (by simpa using hl) ?_ (by omega)
    intro j hji
    rw [Int.toNat_natCast, List.getElem?_set]
    by_cases h : i = j
    · subst h
      rw [if_pos rfl, if_pos (by omega), List.getElem?_map, List.getElem?_eq_getElem (by omega)]
      simp [rd_T98, cvN, List.getD_eq_getElem?_getD, List.getElem?_eq_getElem (show i < x0.length by omega)]
    · rw [if_neg h]
      exact hj j (by omega)
theorem toN_f (l : List S98) (hn : l.length ≤ 1048576) (k : Nat) (hk : l.length < k) : laws_toNodeS.f k l = some (l.map cvN) := by
  unfold laws_toNodeS.f
  rw [if_pos (by omega), if_pos (by omega)]
  exact toN_run l (by omega) l.length k 0 _ (by omega) (by simp) (fun j hj => by omega) hk
theorem eqN_run (x0 : List S96) (hn : x0.length ≤ 140737488351232) (d : Nat) : ∀ (k i : Nat), i + d = x0.length → d < k → laws_eqNodeS.l0 k x0 x0 (i : Int) = some true := by
  induction d with
  | zero =>
    intro k i hi hk
    obtain ⟨k, rfl⟩ : ∃ m, k = m + 1 := ⟨k - 1, by omega⟩
    simp only [laws_eqNodeS.l0]
    rw [if_neg (by omega)]
  | succ d ih =>
    intro k i hi hk
    obtain ⟨k, rfl⟩ : ∃ m, k = m + 1 := ⟨k - 1, by omega⟩
    simp only [laws_eqNodeS.l0, laws_eqNode.f]
    rw [if_pos (by omega), if_pos (by omega), if_pos (by omega), if_pos trivial, if_pos trivial, Option.bind_some, if_pos rfl, wn64s i (by omega)]
    exact ih k (i + 1) (by omega) (by omega)
theorem eqN_f (l : List S96) (hn : l.length ≤ 140737488351232) (k : Nat) (hk : l.length < k) : laws_eqNodeS.f k l l = some true := by
  unfold laws_eqNodeS.f
  rw [if_pos rfl]
  exact eqN_run l hn l.length k 0 (by omega) hk

theorem specArity_g (k : Nat) (hk : 0 < k) (op : Int) : spec_l1Arity.f k op = some (if 1 ≤ op ∧ op ≤ 11 then Tree.arity op else -1) := by
  obtain ⟨k, rfl⟩ : ∃ m, k = m + 1 := ⟨k - 1, by omega⟩
  unfold spec_l1Arity.f Tree.arity
  by_cases h1 : op = 1
  · subst h1; rfl
  · rw [if_neg h1]
    by_cases h2 : op = 2
    · subst h2; rfl
    · rw [if_neg (by omega : ¬ (op = 1 ∨ op = 2))]
      simp only [spec_l1Arity.j0]
      rw [if_neg (by simpa using h2)]
      by_cases h3 : op = 3
      · subst h3; rfl
      · rw [if_neg h3, if_neg h3]
        by_cases h4 : op = 11
        · subst h4; rfl
        · rw [if_neg h4, if_neg h4]
          unfold spec_l1In.f
          by_cases h5 : op ≥ 4
          · by_cases h6 : op ≤ 10
            · rw [if_pos h5, Option.bind_some, decide_eq_true h6, if_pos rfl, if_pos (by omega)]
            · rw [if_pos h5, Option.bind_some, decide_eq_false h6, if_neg (by simp), if_neg (by omega)]
          · rw [if_neg h5, Option.bind_some, if_neg (by simp), if_neg (by omega)]
/-- How many trees a list of nodes leaves. -/
def goodB (r : Option (List Tree.Tr × List Tree.Tr)) : Bool := match r with | some s => s.1.length == 1 | none => false
theorem specGood_run (t : List S96) (hn : t.length ≤ 1048576) (d : Nat) : ∀ (k i : Nat) (s : List Tree.Tr × List Tree.Tr), i + d = t.length → Tree.build (toP (t.take i)) ([], []) = some s → d + 1 < k →
    spec_GoodTerm.l0 k (s.1.length : Int) t (t.length : Int) (i : Int) = some (goodB (Tree.build (toP t) ([], []))) := by
  induction d with
  | zero =>
    intro k i s hi hs hk
    obtain ⟨k, rfl⟩ : ∃ m, k = m + 1 := ⟨k - 1, by omega⟩
    simp only [spec_GoodTerm.l0]
    have e : t.take i = t := List.take_of_length_le (by omega)
    rw [e] at hs
    rw [if_neg (by omega), hs]
    show some ((s.1.length : Int) == 1) = some (s.1.length == 1)
    congr 1
    rw [Bool.eq_iff_iff]; simp; omega
  | succ d ih =>
    intro k i s hi hs hk
    obtain ⟨k, rfl⟩ : ∃ m, k = m + 1 := ⟨k - 1, by omega⟩
    simp only [spec_GoodTerm.l0]
    rw [if_pos (by omega), if_pos (by omega), if_pos (by omega), specArity_g k (by omega), Option.bind_some, wn64s i (by omega), rdN_nat]
    have hlen := (Tree.build_len _ _ _ hs).1
    rw [toP_len, List.length_take] at hlen
    have hl2 : s.1.length ≤ t.length := by simp at hlen; omega
    have hsucc := build_succ t i (by omega) hs
    have hfail := build_fail t i (by omega) hs
    generalize t.getD i z96 = x at hsucc hfail ⊢
    obtain ⟨op, n⟩ := x
    simp only at hsucc hfail ⊢
    have hr := Tree.arity_range op
    have hbad : (Tree.numOK op n = true ∧ Tree.arity op ≤ (s.1.length : Int)) → False → True := fun _ _ => trivial
    by_cases hst : Tree.numOK op n = true ∧ Tree.arity op ≤ (s.1.length : Int)
    · have hstep : Tree.step s (op, n) = some (s.1.take (s.1.length - (Tree.arity op).toNat) ++ [.mk op n (s.1.drop (s.1.length - (Tree.arity op).toNat))], s.2 ++ [.mk op n (s.1.drop (s.1.length - (Tree.arity op).toNat))]) := if_pos hst
      rw [hstep] at hsucc
      have hgo := ih k (i + 1) _ (by omega) hsucc (by omega)
      have hlen' : (((s.1.take (s.1.length - (Tree.arity op).toNat) ++ [Tree.Tr.mk op n (s.1.drop (s.1.length - (Tree.arity op).toNat))]).length : Nat) : Int) = wrap64 ((s.1.length : Int) + wrap64 (1 - Tree.arity op)) := by
        rw [List.length_append, List.length_take, List.length_singleton]
        unfold wrap64
        omega
      simp only [hlen'] at hgo
      obtain ⟨hN, hA⟩ := hst
      unfold Tree.numOK at hN
      have hop : 1 ≤ op ∧ op ≤ 11 := by
        by_cases h1 : op = 1
        · omega
        · rw [if_neg h1] at hN
          by_cases h2 : op = 2
          · omega
          · rw [if_neg h2] at hN
            have := of_decide_eq_true hN
            omega
      rw [if_pos hop, if_neg (by omega), if_neg (by omega)]
      by_cases h2 : op = 2
      · subst h2
        rw [if_neg (by omega), if_pos rfl] at hN
        have hN := of_decide_eq_true hN
        rw [if_pos rfl, if_neg (by omega), if_neg (by omega), if_neg (by decide)]
        exact hgo
      · rw [if_neg h2]
        by_cases h1 : op = 1
        · subst h1
          rw [if_neg (by decide)]
          exact hgo
        · rw [if_neg h1, if_neg h2] at hN
          have hN := of_decide_eq_true hN
          have hpos : Tree.arity op > 0 := by
            unfold Tree.arity
            rw [if_neg (by omega)]
            split
            · omega
            · split <;> omega
          rw [if_pos hpos, if_pos hN.2.2]
          exact hgo
    · rw [hfail (if_neg hst)]
      show _ = some false
      by_cases hop : 1 ≤ op ∧ op ≤ 11
      · rw [if_pos hop, if_neg (by omega)]
        by_cases ha : (s.1.length : Int) < Tree.arity op
        · rw [if_pos ha]
        · rw [if_neg ha]
          have hN : ¬ Tree.numOK op n = true := fun h => hst ⟨h, by omega⟩
          unfold Tree.numOK at hN
          by_cases h2 : op = 2
          · subst h2
            rw [if_neg (by omega), if_pos rfl] at hN
            have hN : ¬ (0 ≤ n ∧ n < 4) := fun h => hN (decide_eq_true h)
            rw [if_pos rfl]
            by_cases hn0 : n < 0
            · rw [if_pos hn0]
            · rw [if_neg hn0, if_pos (by omega)]
          · rw [if_neg h2]
            by_cases h1 : op = 1
            · exact absurd (if_pos h1) hN
            · rw [if_neg h1, if_neg h2] at hN
              have hN : ¬ (1 ≤ op ∧ op ≤ 11 ∧ n = 0) := fun h => hN (decide_eq_true h)
              have hpos : Tree.arity op > 0 := by
                unfold Tree.arity
                rw [if_neg (by omega)]
                split
                · omega
                · split <;> omega
              rw [if_pos hpos, if_neg (by omega)]
      · rw [if_neg hop, if_pos (by omega)]
theorem treeOf_isSome (t : List (Int × Int)) : (Tree.treeOf t).isSome = (decide (1 ≤ t.length ∧ t.length ≤ 40) && goodB (Tree.build t ([], []))) := by
  unfold Tree.treeOf Tree.treesOf
  by_cases h : 1 ≤ t.length ∧ t.length ≤ 40
  · rw [if_pos h, decide_eq_true h, Bool.true_and]
    cases hb : Tree.build t ([], []) with
    | none => rfl
    | some s =>
      show (Option.bind (if s.1.length = 1 then some s.2 else none) List.getLast?).isSome = (s.1.length == 1)
      by_cases h1 : s.1.length = 1
      · have hl := (Tree.build_len _ _ _ hb).2
        rw [if_pos h1, Option.bind_some, h1]
        cases hs : s.2 with
        | nil => rw [hs] at hl; simp at hl; omega
        | cons a l => rw [List.getLast?_cons]; rfl
      · rw [if_neg h1]
        simp [h1]
  · rw [if_neg h, decide_eq_false h]; rfl
theorem specGood_f (t : List S96) (hn : t.length ≤ 1048576) (k : Nat) (hk : t.length + 1 < k) : spec_GoodTerm.f k t = some (Tree.treeOf (toP t)).isSome := by
  unfold spec_GoodTerm.f spec_l1In.f
  rw [treeOf_isSome, toP_len]
  by_cases h0 : 1 ≤ t.length
  · rw [if_pos (by omega), Option.bind_some]
    by_cases h1 : t.length ≤ 40
    · rw [decide_eq_true (by omega), if_pos rfl, decide_eq_true (⟨h0, h1⟩ : 1 ≤ t.length ∧ t.length ≤ 40), Bool.true_and]
      exact specGood_run t hn t.length k 0 ([], []) (by omega) rfl hk
    · rw [decide_eq_false (by omega), if_neg (by simp), decide_eq_false (by omega)]; rfl
  · rw [if_neg (by omega), Option.bind_some, if_neg (by simp), decide_eq_false (by omega)]; rfl

theorem w64 (x : Int) (h0 : -9223372036854775808 ≤ x) (h1 : x ≤ 9223372036854775807) : wrap64 x = x := by unfold wrap64; omega
theorem w64s (i : Nat) (h : i ≤ 140737488355328) : wrap64 ((i : Int) + 1) = ((i + 1 : Nat) : Int) := by rw [w64 _ (by omega) (by omega)]; omega
theorem rd_nat (l : List Int) (i : Nat) : rd l (i : Int) = l.getD i 0 := by simp [rd]
theorem getD_lt (l : List Int) (i : Nat) (h : i < l.length) : l.getD i 0 = l[i] := by simp [List.getD_eq_getElem?_getD, h]

theorem laws_toIntS_run (x0 : List Int) (hn : x0.length ≤ 140737488351232) (d : Nat) : ∀ (k i : Nat) (x3 : List Int), i + d = x0.length → x3.length = x0.length → (∀ j, j < i → x3[j]? = x0[j]?) → d < k →
    laws_toIntS.l0 k x0 x3 (i : Int) = some x0 := by
  induction d with
  | zero =>
    intro k i x3 hi hl hj hk
    obtain ⟨k, rfl⟩ : ∃ m, k = m + 1 := ⟨k - 1, by omega⟩
    simp only [laws_toIntS.l0]
    rw [if_neg (by omega)]
    congr 1
    apply List.ext_getElem?
    intro j
    by_cases h : j < i
    · exact hj j h
    · rw [List.getElem?_eq_none (by omega), List.getElem?_eq_none (by omega)]
  | succ d ih =>
    intro k i x3 hi hl hj hk
    obtain ⟨k, rfl⟩ : ∃ m, k = m + 1 := ⟨k - 1, by omega⟩
    simp only [laws_toIntS.l0]
    rw [if_pos (by omega), if_pos (by omega), if_pos (by omega), w64s i (by omega)]
    refine ih k (i + 1) _ (by omega) (by simpa using hl) ?_ (by omega)
    intro j hji
    rw [Int.toNat_natCast, rd_nat, List.getElem?_set]
    by_cases h : i = j
    · subst h
      rw [if_pos rfl, if_pos (by omega), getD_lt _ _ (by omega), List.getElem?_eq_getElem (by omega)]
    · rw [if_neg h]
      exact hj j (by omega)
theorem laws_toIntS_f (l : List Int) (hn : l.length ≤ 1048576) (k : Nat) (hk : l.length < k) : laws_toIntS.f k l = some l := by
  unfold laws_toIntS.f
  rw [if_pos (by omega), if_pos (by omega)]
  exact laws_toIntS_run l (by omega) l.length k 0 _ (by omega) (by simp) (fun j hj => by omega) hk

theorem laws_eqIntS_run (x0 : List Int) (hn : x0.length ≤ 140737488351232) (d : Nat) : ∀ (k i : Nat), i + d = x0.length → d < k → laws_eqIntS.l0 k x0 x0 (i : Int) = some true := by
  induction d with
  | zero =>
    intro k i hi hk
    obtain ⟨k, rfl⟩ : ∃ m, k = m + 1 := ⟨k - 1, by omega⟩
    simp only [laws_eqIntS.l0]
    rw [if_neg (by omega)]
  | succ d ih =>
    intro k i hi hk
    obtain ⟨k, rfl⟩ : ∃ m, k = m + 1 := ⟨k - 1, by omega⟩
    simp only [laws_eqIntS.l0]
    rw [if_pos (by omega), if_pos (by omega), if_pos (by omega), if_pos trivial, w64s i (by omega)]
    exact ih k (i + 1) (by omega) (by omega)
theorem laws_eqIntS_f (l : List Int) (hn : l.length ≤ 140737488351232) (k : Nat) (hk : l.length < k) : laws_eqIntS.f k l l = some true := by
  unfold laws_eqIntS.f
  rw [if_pos rfl]
  exact laws_eqIntS_run l hn l.length k 0 (by omega) hk

/-- Parts: each number's is at most itself, and its own. -/
def goodAt (l : List Int) (i : Nat) : Prop := 0 ≤ l.getD i 0 ∧ l.getD i 0 ≤ (i : Int) ∧ l.getD (l.getD i 0).toNat 0 = l.getD i 0
instance (l : List Int) (i : Nat) : Decidable (goodAt l i) := by unfold goodAt; infer_instance
def okParts (l : List Int) : Bool := decide ((∀ i : Nat, i < l.length → goodAt l i) ∧ l.length ≤ 200)
theorem rd_int (l : List Int) (x : Int) : rd l x = l.getD x.toNat 0 := rfl
theorem spec_GoodParts_run (x0 : List Int) (hn : x0.length ≤ 200) (d : Nat) : ∀ (k i : Nat), i + d = x0.length → (∀ j : Nat, j < i → goodAt x0 j) → d < k →
    spec_GoodParts.l0 k x0 x0 (x0.length : Int) (i : Int) = some (okParts x0) := by
  induction d with
  | zero =>
    intro k i hi hj hk
    obtain ⟨k, rfl⟩ : ∃ m, k = m + 1 := ⟨k - 1, by omega⟩
    simp only [spec_GoodParts.l0]
    rw [if_neg (by omega)]
    congr 1
    symm
    exact decide_eq_true ⟨fun j hj' => hj j (by omega), hn⟩
  | succ d ih =>
    intro k i hi hj hk
    obtain ⟨k, rfl⟩ : ∃ m, k = m + 1 := ⟨k - 1, by omega⟩
    simp only [spec_GoodParts.l0]
    rw [if_pos (by omega), if_pos (by omega), if_pos (by omega), rd_nat]
    unfold spec_l1In.f
    by_cases h0 : x0.getD i 0 ≥ 0
    · rw [if_pos h0]
      by_cases h1 : x0.getD i 0 ≤ (i : Int)
      · rw [decide_eq_true h1, Option.bind_some, if_pos rfl, if_pos (by omega), if_pos (by omega), w64s i (by omega), rd_int]
        by_cases h2 : x0.getD (x0.getD i 0).toNat 0 = x0.getD i 0
        · rw [if_pos h2]
          exact ih k (i + 1) (by omega) (fun j hj' => by
            by_cases e : j = i
            · subst e; exact ⟨h0, h1, h2⟩
            · exact hj j (by omega)) (by omega)
        · rw [if_neg h2]
          congr 1
          symm
          exact decide_eq_false (fun h => h2 (h.1 i (by omega)).2.2)
      · rw [decide_eq_false h1, Option.bind_some, if_neg (by simp)]
        congr 1
        symm
        exact decide_eq_false (fun h => h1 (h.1 i (by omega)).2.1)
    · rw [if_neg h0, Option.bind_some, if_neg (by simp)]
      congr 1
      symm
      exact decide_eq_false (fun h => h0 (h.1 i (by omega)).1)
theorem spec_GoodParts_f (l : List Int) (k : Nat) (hk : l.length < k) : spec_GoodParts.f k l = some (okParts l) := by
  unfold spec_GoodParts.f
  by_cases h : (l.length : Int) > 200
  · rw [if_pos h]
    congr 1
    symm
    exact decide_eq_false (fun h' => by have := h'.2; omega)
  · rw [if_neg h]
    exact spec_GoodParts_run l (by omega) l.length k 0 (by omega) (fun j hj => by omega) hk
/-- Parents, as the program asks first. -/
def okPar (l : List Int) : Bool := decide ((∀ i : Nat, i < l.length → 0 ≤ l.getD i 0 ∧ l.getD i 0 ≤ (i : Int)) ∧ l.length ≤ 200)
theorem impl_parentsOK_run (x0 : List Int) (hn : x0.length ≤ 140737488351232) (d : Nat) : ∀ (k i : Nat), i + d = x0.length → (∀ j : Nat, j < i → 0 ≤ x0.getD j 0 ∧ x0.getD j 0 ≤ (j : Int)) → d < k →
    impl_parentsOK.l0 k x0 x0 (x0.length : Int) (i : Int) = some (okPar x0) := by
  induction d with
  | zero =>
    intro k i hi hj hk
    obtain ⟨k, rfl⟩ : ∃ m, k = m + 1 := ⟨k - 1, by omega⟩
    simp only [impl_parentsOK.l0]
    rw [if_neg (by omega)]
    congr 1
    unfold okPar
    rw [decide_eq_decide]
    constructor
    · intro h; exact ⟨fun j hj' => hj j (by omega), by omega⟩
    · intro h; have := h.2; omega
  | succ d ih =>
    intro k i hi hj hk
    obtain ⟨k, rfl⟩ : ∃ m, k = m + 1 := ⟨k - 1, by omega⟩
    simp only [impl_parentsOK.l0]
    rw [if_pos (by omega), if_pos (by omega), if_pos (by omega), rd_nat]
    unfold impl_within.f
    by_cases h0 : x0.getD i 0 ≥ 0
    · rw [if_pos h0]
      by_cases h1 : x0.getD i 0 ≤ (i : Int)
      · rw [decide_eq_true h1, Option.bind_some, if_pos rfl, w64s i (by omega)]
        exact ih k (i + 1) (by omega) (fun j hj' => by
          by_cases e : j = i
          · subst e; exact ⟨h0, h1⟩
          · exact hj j (by omega)) (by omega)
      · rw [decide_eq_false h1, Option.bind_some, if_neg (by simp)]
        congr 1
        symm
        exact decide_eq_false (fun h => h1 (h.1 i (by omega)).2)
    · rw [if_neg h0, Option.bind_some, if_neg (by simp)]
      congr 1
      symm
      exact decide_eq_false (fun h => h0 (h.1 i (by omega)).1)
theorem impl_parentsOK_f (l : List Int) (hn : l.length ≤ 140737488351232) (k : Nat) (hk : l.length < k) : impl_parentsOK.f k l = some (okPar l) :=
  impl_parentsOK_run l hn l.length k 0 (by omega) (fun j hj => by omega) hk
theorem impl_GoodParts_f (l : List Int) (hn : l.length ≤ 140737488351232) (k : Nat) (hk : l.length < k) : impl_GoodParts.f k l = some (okParts l) := by
  unfold impl_GoodParts.f
  rw [impl_parentsOK_f l hn k hk, Option.bind_some]
  cases hp : okPar l with
  | false =>
    rw [if_neg (by simp)]
    congr 1
    symm
    exact decide_eq_false (fun h => by
      have : okPar l = true := decide_eq_true ⟨fun i hi => ⟨(h.1 i hi).1, (h.1 i hi).2.1⟩, h.2⟩
      rw [hp] at this; cases this)
  | true =>
    have hp' := of_decide_eq_true hp
    rw [if_pos rfl]
    congr 1
    rw [Bool.eq_iff_iff]
    simp only [Bool.not_eq_true', List.any_eq_false, okParts, decide_eq_true_eq]
    constructor
    · intro h
      refine ⟨fun i hi => ⟨(hp'.1 i hi).1, (hp'.1 i hi).2, ?_⟩, hp'.2⟩
      have := h l[i] (List.getElem_mem hi)
      rw [getD_lt _ _ hi]
      simpa [rd_int] using this
    · intro h x hx
      obtain ⟨i, hi, rfl⟩ := List.getElem_of_mem hx
      have := (h.1 i hi).2.2
      rw [getD_lt _ _ hi] at this
      simpa [rd_int] using this

def cvE (x : S130) : S114 := ⟨x.f0, x.f1, x.f2⟩
theorem szI_f (l : List Int) (m : Int) (hm0 : 0 ≤ m) (hm : m ≤ 1048576) (hl : l.length ≤ 9223372036854775807) : laws_szIntS.f l m = some (if m - (l.length : Int) < 0 then -1 else m - (l.length : Int)) := by
  unfold laws_szIntS.f
  have e : wrap64 (m - (l.length : Int)) = m - (l.length : Int) := by unfold wrap64; omega
  rw [e]
  split <;> rfl
theorem rdLE_nat (l : List S130) (i : Nat) (h : i < l.length) : rd_T130 l (i : Int) = l[i] := by unfold rd_T130; rw [Int.toNat_natCast, List.getD_eq_getElem?_getD, List.getElem?_eq_getElem h]; rfl
theorem rdE_nat (l : List S114) (i : Nat) (h : i < l.length) : rd_T114 l (i : Int) = l[i] := by unfold rd_T114; rw [Int.toNat_natCast, List.getD_eq_getElem?_getD, List.getElem?_eq_getElem h]; rfl
theorem szE_run (x0 : List S130) (hn : x0.length ≤ 1048576) (hin : ∀ x ∈ x0, x.f2.length ≤ 9223372036854775807) (d : Nat) : ∀ (k i : Nat) (m : Int), i + d = x0.length → d < k → 0 ≤ m → m ≤ 1048576 →
    ∃ t, laws_szENodeS.l0 k x0 m (i : Int) = some t ∧ (t < 0 ∨ (0 ≤ t ∧ t + ((((x0.drop i).map fun x => x.f2.length).sum : Nat) : Int) = m ∧ ∀ j, i ≤ j → (h : j < x0.length) → x0[j].f2.length ≤ 1048576)) := by
  induction d with
  | zero =>
    intro k i m hi hk h0 h1
    obtain ⟨k, rfl⟩ : ∃ j, k = j + 1 := ⟨k - 1, by omega⟩
    simp only [laws_szENodeS.l0]
    rw [if_neg (by omega)]
    exact ⟨_, rfl, .inr ⟨h0, by rw [List.drop_of_length_le (by omega)]; simp, fun j hj h => by omega⟩⟩
  | succ d ih =>
    intro k i m hi hk h0 h1
    obtain ⟨k, rfl⟩ : ∃ j, k = j + 1 := ⟨k - 1, by omega⟩
    have hil : i < x0.length := by omega
    have hx := hin _ (List.getElem_mem hil)
    simp only [laws_szENodeS.l0]
    rw [if_pos (by omega), if_pos (by omega), rdLE_nat _ i hil]
    unfold laws_szENode.f
    rw [szI_f _ m h0 h1 hx, Option.bind_some]
    by_cases hneg : m - (x0[i].f2.length : Int) < 0
    · rw [if_pos hneg, if_pos (by omega), Option.bind_some, if_pos (by omega)]
      exact ⟨_, rfl, .inl (by omega)⟩
    · rw [if_neg hneg, if_neg (by omega), Option.bind_some, if_neg (by omega), w64s i (by omega)]
      obtain ⟨t, ht, hh⟩ := ih k (i + 1) (m - (x0[i].f2.length : Int)) (by omega) (by omega) (by omega) (by omega)
      refine ⟨t, ht, hh.imp id (fun h => ⟨h.1, by have h2 := h.2.1; rw [List.drop_eq_getElem_cons hil, List.map_cons, List.sum_cons]; omega, fun j hj hjl => ?_⟩)⟩
      by_cases e : j = i
      · subst e; omega
      · exact h.2.2 j (by omega) hjl
theorem szE_f (l : List S130) (m : Int) (h0 : 0 ≤ m) (hm : m ≤ 1048576) (hl : l.length ≤ 9223372036854775807) (hin : ∀ x ∈ l, x.f2.length ≤ 9223372036854775807) (k : Nat) (hk : 1048576 < k) : ∃ t, laws_szENodeS.f k l m = some t ∧ (t < 0 ∨ (0 ≤ t ∧ t ≤ 1048576 ∧ l.length ≤ 1048576 ∧ (∀ x ∈ l, x.f2.length ≤ 1048576) ∧ (l.map fun x => x.f2.length).sum ≤ 1048576)) := by
  unfold laws_szENodeS.f
  have e : wrap64 (m - (l.length : Int)) = m - (l.length : Int) := by unfold wrap64; omega
  rw [e]
  by_cases h : m - (l.length : Int) < 0
  · rw [if_pos h]; exact ⟨_, rfl, .inl (by omega)⟩
  · rw [if_neg h]
    obtain ⟨t, ht, hh⟩ := szE_run l (by omega) hin l.length k 0 (m - (l.length : Int)) (by omega) (by omega) (by omega) (by omega)
    refine ⟨t, ht, hh.imp id (fun h => ?_)⟩
    have h2 := h.2.1
    rw [List.drop_zero] at h2
    refine ⟨h.1, by omega, by omega, fun x hx => ?_, by omega⟩
    obtain ⟨j, hj, rfl⟩ := List.getElem_of_mem hx
    exact h.2.2 j (Nat.zero_le _) hj
theorem toE_run (x0 : List S130) (hn : x0.length ≤ 1048576) (hin : ∀ x ∈ x0, x.f2.length ≤ 1048576) (d : Nat) : ∀ (k i : Nat) (x3 : List S114), i + d = x0.length → x3.length = x0.length → (∀ j, j < i → x3[j]? = (x0.map cvE)[j]?) → d + 1048577 < k →
    laws_toENodeS.l0 k x0 x3 (i : Int) = some (x0.map cvE) := by
  induction d with
  | zero =>
    intro k i x3 hi hl hj hk
    obtain ⟨k, rfl⟩ : ∃ m, k = m + 1 := ⟨k - 1, by omega⟩
    simp only [laws_toENodeS.l0]
    rw [if_neg (by omega)]
    congr 1
    apply List.ext_getElem?
    intro j
    by_cases h : j < i
    · exact hj j h
    · rw [List.getElem?_eq_none (by omega), List.getElem?_eq_none (by rw [List.length_map]; omega)]
  | succ d ih =>
    intro k i x3 hi hl hj hk
    obtain ⟨k, rfl⟩ : ∃ m, k = m + 1 := ⟨k - 1, by omega⟩
    have hil : i < x0.length := by omega
    have hx := hin _ (List.getElem_mem hil)
    simp only [laws_toENodeS.l0]
    rw [if_pos (by omega), if_pos (by omega), rdLE_nat _ i hil]
    unfold laws_toENode.f
    rw [laws_toIntS_f _ hx k (by omega), Option.bind_some, Option.bind_some, if_pos (by omega), w64s i (by omega)]
    refine ih k (i + 1) _ (by omega) (by simpa using hl) ?_ (by omega)
    intro j hji
    rw [Int.toNat_natCast, List.getElem?_set]
    by_cases h : i = j
    · subst h
      rw [if_pos rfl, if_pos (by omega), List.getElem?_map, List.getElem?_eq_getElem hil]
      rfl
    · rw [if_neg h]
      exact hj j (by omega)
theorem toE_f (l : List S130) (hn : l.length ≤ 1048576) (hin : ∀ x ∈ l, x.f2.length ≤ 1048576) (k : Nat) (hk : 2097160 < k) : laws_toENodeS.f k l = some (l.map cvE) := by
  unfold laws_toENodeS.f
  rw [if_pos (by omega), if_pos (by omega)]
  exact toE_run l hn hin l.length k 0 _ (by omega) (by simp) (fun j hj => by omega) (by omega)
theorem eqE_run (x0 : List S114) (hn : x0.length ≤ 1048576) (hin : ∀ x ∈ x0, x.f2.length ≤ 1048576) (d : Nat) : ∀ (k i : Nat), i + d = x0.length → d + 1048577 < k → laws_eqENodeS.l0 k x0 x0 (i : Int) = some true := by
  induction d with
  | zero =>
    intro k i hi hk
    obtain ⟨k, rfl⟩ : ∃ m, k = m + 1 := ⟨k - 1, by omega⟩
    simp only [laws_eqENodeS.l0]
    rw [if_neg (by omega)]
  | succ d ih =>
    intro k i hi hk
    obtain ⟨k, rfl⟩ : ∃ m, k = m + 1 := ⟨k - 1, by omega⟩
    have hil : i < x0.length := by omega
    have hx := hin _ (List.getElem_mem hil)
    simp only [laws_eqENodeS.l0]
    rw [if_pos (by omega), if_pos (by omega), if_pos (by omega), rdE_nat _ i hil]
    unfold laws_eqENode.f
    rw [laws_eqIntS_f _ (by omega) k (by omega), if_pos rfl, if_pos rfl, Option.bind_some, if_pos rfl, Option.bind_some, if_pos rfl, w64s i (by omega)]
    exact ih k (i + 1) (by omega) (by omega)
theorem eqE_f (l : List S114) (hn : l.length ≤ 1048576) (hin : ∀ x ∈ l, x.f2.length ≤ 1048576) (k : Nat) (hk : 2097160 < k) : laws_eqENodeS.f k l l = some true := by
  unfold laws_eqENodeS.f
  rw [if_pos rfl]
  exact eqE_run l hn hin l.length k 0 (by omega) (by omega)
theorem cvE_len (l : List S130) (hin : ∀ x ∈ l, x.f2.length ≤ 1048576) : ∀ x ∈ l.map cvE, x.f2.length ≤ 1048576 := fun x hx => by
  obtain ⟨y, hy, rfl⟩ := List.mem_map.1 hx
  exact hin y hy

theorem szG_f (n : List S130) (p : List Int) (m : Int) (h0 : 0 ≤ m) (hm : m ≤ 1048576) (hl : n.length ≤ 9223372036854775807) (hin : ∀ x ∈ n, x.f2.length ≤ 9223372036854775807) (hp : p.length ≤ 9223372036854775807) (k : Nat) (hk : 1048576 < k) : ∃ t, laws_szEGraph.f k n p m = some t ∧ (t < 0 ∨ (0 ≤ t ∧ t ≤ 1048576 ∧ n.length ≤ 1048576 ∧ (∀ x ∈ n, x.f2.length ≤ 1048576) ∧ p.length ≤ 1048576 ∧ (n.map fun x => x.f2.length).sum ≤ 1048576)) := by
  unfold laws_szEGraph.f
  obtain ⟨t, ht, hh⟩ := szE_f n m h0 hm hl hin k hk
  rw [ht, Option.bind_some]
  by_cases h : t < 0
  · rw [if_pos h]; exact ⟨_, rfl, .inl (by omega)⟩
  · obtain ⟨a, b, c, d, e⟩ := hh.resolve_left h
    rw [if_neg h, szI_f p t a b hp, Option.bind_some]
    by_cases h' : t - (p.length : Int) < 0
    · rw [if_pos h', if_pos (by omega)]; exact ⟨_, rfl, .inl (by omega)⟩
    · rw [if_neg h', if_neg h']; exact ⟨_, rfl, .inr ⟨by omega, by omega, c, d, by omega, e⟩⟩
theorem toG_f (n : List S130) (p : List Int) (hn : n.length ≤ 1048576) (hin : ∀ x ∈ n, x.f2.length ≤ 1048576) (hp : p.length ≤ 1048576) (k : Nat) (hk : 2097160 < k) : laws_toEGraph.f k n p = some (n.map cvE, p) := by
  unfold laws_toEGraph.f
  rw [toE_f n hn hin k hk, Option.bind_some, laws_toIntS_f p hp k (by omega)]
  rfl
theorem eqG_f (n : List S114) (p : List Int) (hn : n.length ≤ 1048576) (hin : ∀ x ∈ n, x.f2.length ≤ 1048576) (hp : p.length ≤ 1048576) (k : Nat) (hk : 2097160 < k) : laws_eqEGraph.f k n p n p = some true := by
  unfold laws_eqEGraph.f
  rw [eqE_f n hn hin k hk, Option.bind_some, if_pos rfl, laws_eqIntS_f p (by omega) k (by omega)]
  rfl

/-- A test at d places from i on. -/
def allB (p : Nat → Bool) : Nat → Nat → Bool
  | _, 0 => true
  | i, d + 1 => p i && allB p (i + 1) d
theorem allB_iff (p : Nat → Bool) (d : Nat) : ∀ i, allB p i d = true ↔ ∀ j, i ≤ j → j < i + d → p j = true := by
  induction d with
  | zero => intro i; exact ⟨fun _ j h1 h2 => by omega, fun _ => rfl⟩
  | succ d ih =>
    intro i
    simp only [allB, Bool.and_eq_true, ih (i + 1)]
    constructor
    · intro h j h1 h2
      by_cases e : j = i
      · subst e; exact h.1
      · exact h.2 j (by omega) (by omega)
    · intro h
      exact ⟨h i (Nat.le_refl _) (by omega), fun j h1 h2 => h j (by omega) (by omega)⟩
theorem allB_congr {p q : Nat → Bool} (d : Nat) : ∀ i, (∀ j, i ≤ j → j < i + d → p j = q j) → allB p i d = allB q i d := by
  induction d with
  | zero => intro i _; rfl
  | succ d ih =>
    intro i h
    simp only [allB]
    rw [h i (Nat.le_refl _) (by omega), ih (i + 1) (fun j h1 h2 => h j (by omega) (by omega))]

/-- A node is right, its kids below a number. -/
def enOK (x : S114) (k : Nat) : Bool := (Tree.numOK x.f0 x.f1 && ((x.f2.length : Int) == Tree.arity x.f0)) && x.f2.all fun c => decide (0 ≤ c ∧ c < (k : Int))
def loose (l : List S114) : Bool := allB (fun i => enOK (l.getD i z114) i) 0 l.length && decide (l.length ≤ 120)
theorem rdE_getD (l : List S114) (i : Nat) : rd_T114 l (i : Int) = l.getD i z114 := by unfold rd_T114; rw [Int.toNat_natCast]
theorem outB_eq (kids : List Int) (k : Nat) (hk : k ≤ 1048576) : (!outB kids (k : Int)) = kids.all fun c => decide (0 ≤ c ∧ c < (k : Int)) := by
  unfold outB
  have e : wrap64 ((k : Int) - 1) = (k : Int) - 1 := by unfold wrap64; omega
  rw [e]
  induction kids with
  | nil => rfl
  | cons x t ih =>
    rw [List.any_cons, List.all_cons, ← ih, Bool.not_or, Bool.not_not]
    congr 1
    rw [decide_eq_decide]; omega
theorem enodeOK_f (x : S114) (k : Nat) (hk : k ≤ 1048576) : impl_enodeOK.f x.f0 x.f1 x.f2 (k : Int) = some (enOK x k) := by
  unfold impl_enodeOK.f enOK
  rw [outB_eq _ k hk, Bool.and_assoc]
theorem looseOK_run (l : List S114) (hl : l.length ≤ 1048576) (d : Nat) : ∀ (k i : Nat), i + d = l.length → d < k →
    impl_looseOK.l0 k l l (l.length : Int) (i : Int) = some (allB (fun i => enOK (l.getD i z114) i) i d && decide (l.length ≤ 120)) := by
  induction d with
  | zero =>
    intro k i hi hk
    obtain ⟨k, rfl⟩ : ∃ m, k = m + 1 := ⟨k - 1, by omega⟩
    simp only [impl_looseOK.l0, allB]
    rw [if_neg (by omega), Bool.true_and]
    congr 1
    rw [decide_eq_decide]; omega
  | succ d ih =>
    intro k i hi hk
    obtain ⟨k, rfl⟩ : ∃ m, k = m + 1 := ⟨k - 1, by omega⟩
    simp only [impl_looseOK.l0, allB]
    rw [if_pos (by omega), if_pos (by omega), if_pos (by omega), rdE_getD, enodeOK_f _ i (by omega), Option.bind_some, w64s i (by omega), ih k (i + 1) (by omega) (by omega)]
    cases enOK (l.getD i z114) i <;> rfl
theorem looseOK_f (l : List S114) (hl : l.length ≤ 1048576) (k : Nat) (hk : l.length < k) : impl_looseOK.f k l = some (loose l) := by
  unfold impl_looseOK.f loose
  exact looseOK_run l hl l.length k 0 (by omega) hk
theorem specArity_f (k : Nat) (hk : 0 < k) (op : Int) : spec_l1Arity.f k op = some (if 1 ≤ op ∧ op ≤ 11 then Tree.arity op else -1) := by
  obtain ⟨k, rfl⟩ : ∃ m, k = m + 1 := ⟨k - 1, by omega⟩
  unfold spec_l1Arity.f Tree.arity
  by_cases h1 : op = 1
  · subst h1; rfl
  · rw [if_neg h1]
    by_cases h2 : op = 2
    · subst h2; rfl
    · rw [if_neg (by omega : ¬ (op = 1 ∨ op = 2))]
      simp only [spec_l1Arity.j0]
      rw [if_neg (by simpa using h2)]
      by_cases h3 : op = 3
      · subst h3; rfl
      · rw [if_neg h3, if_neg h3]
        by_cases h4 : op = 11
        · subst h4; rfl
        · rw [if_neg h4, if_neg h4]
          unfold spec_l1In.f
          by_cases h5 : op ≥ 4
          · by_cases h6 : op ≤ 10
            · rw [if_pos h5, Option.bind_some, decide_eq_true h6, if_pos rfl, if_pos (by omega)]
            · rw [if_pos h5, Option.bind_some, decide_eq_false h6, if_neg (by simp), if_neg (by omega)]
          · rw [if_neg h5, Option.bind_some, if_neg (by simp), if_neg (by omega)]
theorem l6Node_f (op n : Int) (kids : List Int) (k : Nat) (hk : 0 < k) : spec_l6Node.f k op n kids = some (Tree.numOK op n && ((kids.length : Int) == Tree.arity op)) := by
  unfold spec_l6Node.f
  rw [specArity_f k hk, Option.bind_some]
  obtain ⟨k, rfl⟩ : ∃ m, k = m + 1 := ⟨k - 1, by omega⟩
  have hr := Tree.arity_range op
  by_cases hop : 1 ≤ op ∧ op ≤ 11
  · rw [if_pos hop, if_neg (by omega)]
    simp only [spec_l6Node.j0]
    by_cases hl : (kids.length : Int) = Tree.arity op
    · rw [bne_eq_false_iff_eq.2 hl, if_neg (by simp), beq_iff_eq.2 hl, Bool.and_true]
      unfold Tree.numOK
      by_cases h1 : op = 1
      · rw [if_pos h1, if_pos h1]
      · rw [if_neg h1, if_neg h1]
        by_cases h2 : op = 2
        · rw [if_pos h2, if_pos h2]
          by_cases h3 : n ≥ 0
          · rw [if_pos h3]; congr 1; rw [decide_eq_decide]; omega
          · rw [if_neg h3, decide_eq_false (by omega)]
        · rw [if_neg h2, if_neg h2]
          congr 1
          rw [Bool.eq_iff_iff]; simp; omega
    · rw [bne_iff_ne.2 hl, if_pos rfl, beq_eq_false_iff_ne.2 hl, Bool.and_false]
  · rw [if_neg hop, if_pos (by omega)]
    simp only [spec_l6Node.j0]
    rw [if_pos trivial]
    unfold Tree.numOK
    rw [if_neg (by omega), if_neg (by omega), decide_eq_false (by omega), Bool.false_and]
theorem l1In_f (a b c : Int) : spec_l1In.f a b c = some (decide (b ≤ a ∧ a ≤ c)) := by
  unfold spec_l1In.f
  by_cases h : a ≥ b
  · rw [if_pos h]; congr 1; rw [decide_eq_decide]; omega
  · rw [if_neg h, decide_eq_false (by omega)]
theorem l1All_run (l : List Int) (lo hi : Int) (hl : l.length ≤ 1048576) (d : Nat) : ∀ (k i : Nat), i + d = l.length → d < k → spec_l1All.l0 k lo hi l (l.length : Int) (i : Int) = some ((l.drop i).all fun c => decide (lo ≤ c ∧ c ≤ hi)) := by
  induction d with
  | zero =>
    intro k i hi' hk
    obtain ⟨k, rfl⟩ : ∃ m, k = m + 1 := ⟨k - 1, by omega⟩
    simp only [spec_l1All.l0]
    rw [if_neg (by omega), List.drop_of_length_le (by omega)]
    rfl
  | succ d ih =>
    intro k i hi' hk
    obtain ⟨k, rfl⟩ : ∃ m, k = m + 1 := ⟨k - 1, by omega⟩
    have hil : i < l.length := by omega
    simp only [spec_l1All.l0]
    rw [if_pos (by omega), if_pos (by omega), if_pos (by omega), l1In_f, Option.bind_some, w64s i (by omega), ih k (i + 1) (by omega) (by omega), List.drop_eq_getElem_cons hil, List.all_cons, rd_nat, getD_lt l i hil]
    cases decide (lo ≤ l[i] ∧ l[i] ≤ hi) <;> rfl
theorem l1All_f (l : List Int) (lo hi : Int) (hl : l.length ≤ 1048576) (k : Nat) (hk : l.length < k) : spec_l1All.f k l lo hi = some (l.all fun c => decide (lo ≤ c ∧ c ≤ hi)) := by
  unfold spec_l1All.f
  have := l1All_run l lo hi hl l.length k 0 (by omega) hk
  rw [List.drop_zero] at this
  exact this
theorem l6Nodes_run (l : List S114) (hl : l.length ≤ 1048576) (hin : ∀ x ∈ l, x.f2.length ≤ 1048576) (d : Nat) : ∀ (k i : Nat), i + d = l.length → d + 1048577 < k →
    spec_l6Nodes.l0 k l (l.length : Int) (i : Int) = some (allB (fun i => enOK (l.getD i z114) i) i d) := by
  induction d with
  | zero =>
    intro k i hi hk
    obtain ⟨k, rfl⟩ : ∃ m, k = m + 1 := ⟨k - 1, by omega⟩
    simp only [spec_l6Nodes.l0, allB]
    rw [if_neg (by omega)]
  | succ d ih =>
    intro k i hi hk
    obtain ⟨k, rfl⟩ : ∃ m, k = m + 1 := ⟨k - 1, by omega⟩
    have hil : i < l.length := by omega
    have hx : (l.getD i z114).f2.length ≤ 1048576 := by
      rw [List.getD_eq_getElem?_getD, List.getElem?_eq_getElem hil]
      exact hin _ (List.getElem_mem hil)
    have e : wrap64 ((i : Int) - 1) = (i : Int) - 1 := by unfold wrap64; omega
    simp only [spec_l6Nodes.l0, allB]
    rw [if_pos (by omega), if_pos (by omega), if_pos (by omega), rdE_getD, l6Node_f _ _ _ k (by omega), Option.bind_some, w64s i (by omega), ih k (i + 1) (by omega) (by omega), e, l1All_f _ _ _ hx k (by omega)]
    have e2 : (fun c : Int => decide (0 ≤ c ∧ c ≤ (i : Int) - 1)) = fun c => decide (0 ≤ c ∧ c < (i : Int)) := by
      funext c; rw [decide_eq_decide]; omega
    rw [e2]
    unfold enOK
    generalize l.getD i z114 = x
    cases (Tree.numOK x.f0 x.f1 && ((x.f2.length : Int) == Tree.arity x.f0)) with
    | false => rfl
    | true =>
      rw [if_pos rfl, Option.bind_some]
      cases (x.f2.all fun c => decide (0 ≤ c ∧ c < (i : Int))) <;> rfl
theorem l6Nodes_f (l : List S114) (hl : l.length ≤ 1048576) (hin : ∀ x ∈ l, x.f2.length ≤ 1048576) (k : Nat) (hk : 2097160 < k) : spec_l6Nodes.f k l = some (loose l) := by
  unfold spec_l6Nodes.f loose
  by_cases h : (l.length : Int) > 120
  · rw [if_pos h, decide_eq_false (by omega), Bool.and_false]
  · rw [if_neg h, decide_eq_true (by omega), Bool.and_true]
    exact l6Nodes_run l hl hin l.length k 0 (by omega) (by omega)
theorem loose_at {l : List S114} (h : loose l = true) (i : Nat) (hi : i < l.length) : enOK (l.getD i z114) i = true := by
  unfold loose at h
  rw [Bool.and_eq_true, allB_iff] at h
  exact h.1 i (Nat.zero_le _) (by omega)
theorem loose_len {l : List S114} (h : loose l = true) : l.length ≤ 120 := by
  unfold loose at h
  rw [Bool.and_eq_true] at h
  exact of_decide_eq_true h.2
theorem enOK_kids {x : S114} {k : Nat} (h : enOK x k = true) : x.f2.length ≤ 3 ∧ ∀ c ∈ x.f2, 0 ≤ c ∧ c < (k : Int) := by
  unfold enOK at h
  simp only [Bool.and_eq_true, beq_iff_eq, List.all_eq_true, decide_eq_true_eq] at h
  have := Tree.arity_range x.f0
  exact ⟨by omega, h.2⟩
/-- Two nodes are the same. -/
def sameE (x y : S114) : Bool := (x.f0 == y.f0 && x.f1 == y.f1) && x.f2 == y.f2
theorem l1Same_run (a b : List Int) (hab : a.length = b.length) (hl : a.length ≤ 1048576) (d : Nat) : ∀ (k i : Nat), i + d = a.length → d < k → spec_l1Same.l0 k a b (a.length : Int) (i : Int) = some (a.drop i == b.drop i) := by
  induction d with
  | zero =>
    intro k i hi hk
    obtain ⟨k, rfl⟩ : ∃ m, k = m + 1 := ⟨k - 1, by omega⟩
    simp only [spec_l1Same.l0]
    rw [if_neg (by omega), List.drop_of_length_le (by omega), List.drop_of_length_le (by omega)]
    rfl
  | succ d ih =>
    intro k i hi hk
    obtain ⟨k, rfl⟩ : ∃ m, k = m + 1 := ⟨k - 1, by omega⟩
    have ha : i < a.length := by omega
    have hb : i < b.length := by omega
    simp only [spec_l1Same.l0]
    rw [if_pos (by omega), if_pos (by omega), if_pos (by omega), if_pos (by omega), rd_nat, rd_nat, getD_lt a i ha, getD_lt b i hb, w64s i (by omega), ih k (i + 1) (by omega) (by omega), List.drop_eq_getElem_cons ha, List.drop_eq_getElem_cons hb]
    by_cases h : a[i] = b[i]
    · rw [if_pos h, h]; congr 1; rw [Bool.eq_iff_iff, beq_iff_eq, beq_iff_eq]; exact ⟨fun e => by rw [e], fun e => (List.cons.inj e).2⟩
    · rw [if_neg h]; congr 1; symm; rw [beq_eq_false_iff_ne]; intro e; exact h (List.cons.inj e).1
theorem l1Same_f (a b : List Int) (hl : a.length ≤ 1048576) (k : Nat) (hk : a.length < k) : spec_l1Same.f k a b = some (a == b) := by
  unfold spec_l1Same.f
  by_cases h : a.length = b.length
  · rw [if_pos (by omega)]
    have := l1Same_run a b h hl a.length k 0 (by omega) hk
    rw [List.drop_zero, List.drop_zero] at this
    exact this
  · rw [if_neg (by omega)]; congr 1; symm; rw [beq_eq_false_iff_ne]; intro e; exact h (by rw [e])
theorem Equal_eq : ∀ (k : Nat) (a b : List Int) (c d : Int), slices_Equal_int_int.l0 k a b c d = spec_l1Same.l0 k a b c d := by
  intro k
  induction k with
  | zero => intros; rfl
  | succ k ih => intro a b c d; simp only [slices_Equal_int_int.l0, spec_l1Same.l0, ih]
theorem Equal_f (a b : List Int) (hl : a.length ≤ 1048576) (k : Nat) (hk : a.length < k) : slices_Equal_int_int.f k a b = some (a == b) := by
  have := l1Same_f a b hl k hk
  unfold spec_l1Same.f at this
  unfold slices_Equal_int_int.f
  rw [Equal_eq]
  exact this
theorem specAlike_f (x y : S114) (hl : x.f2.length ≤ 1048576) (k : Nat) (hk : x.f2.length < k) : spec_l6Alike.f k x.f0 x.f1 x.f2 y.f0 y.f1 y.f2 = some (sameE x y) := by
  unfold spec_l6Alike.f sameE
  rw [l1Same_f _ _ hl k hk]
  by_cases h0 : x.f0 = y.f0
  · rw [if_pos h0, beq_iff_eq.2 h0]
    by_cases h1 : x.f1 = y.f1
    · rw [if_pos h1, beq_iff_eq.2 h1]; rfl
    · rw [if_neg h1, beq_eq_false_iff_ne.2 h1]; rfl
  · rw [if_neg h0, beq_eq_false_iff_ne.2 h0]; rfl
theorem implAlike_f (x y : S114) (hl : x.f2.length ≤ 1048576) (k : Nat) (hk : x.f2.length < k) : impl_alike.f k x.f0 x.f1 x.f2 y.f0 y.f1 y.f2 = some (sameE x y) := by
  unfold impl_alike.f sameE
  rw [Equal_f _ _ hl k hk]
  by_cases h0 : x.f0 = y.f0
  · rw [if_pos h0, beq_iff_eq.2 h0]
    by_cases h1 : x.f1 = y.f1
    · rw [if_pos h1, beq_iff_eq.2 h1]; rfl
    · rw [if_neg h1, beq_eq_false_iff_ne.2 h1]; rfl
  · rw [if_neg h0, beq_eq_false_iff_ne.2 h0]; rfl
/-- What a graph must obey at a node. -/
def pairOK (nodes : List S114) (parts : List Int) (j i : Nat) : Bool := !(sameE (nodes.getD j z114) (nodes.getD i z114)) || (parts.getD i 0 == parts.getD j 0)
def bodyOK (nodes : List S114) (parts : List Int) (j : Nat) : Bool := ((nodes.getD j z114).f2.all fun c => rd parts c == c) && allB (pairOK nodes parts j) 0 j
def goodG (nodes : List S114) (parts : List Int) : Bool := ((decide (parts.length = nodes.length) && loose nodes) && okParts parts) && allB (bodyOK nodes parts) 0 nodes.length
theorem specGG_l2 (nodes : List S114) (parts : List Int) (hlen : parts.length = nodes.length) (hn : nodes.length ≤ 120) (j : Nat) (hj : j < nodes.length) (x : S114) (hxj : nodes.getD j z114 = x) (hx : x.f2.length ≤ 3) (d : Nat) : ∀ (k i : Nat), i + d = j → 3 < k →
    spec_GoodGraph.l2 (k + d + 1) (j : Int) (i : Int) nodes (nodes.length : Int) (j : Int) nodes parts x.f0 x.f1 x.f2 = if allB (pairOK nodes parts j) i d = true then spec_GoodGraph.l0 k nodes (nodes.length : Int) ((j + 1 : Nat) : Int) nodes parts else some false := by
  induction d with
  | zero =>
    intro k i hi hk
    simp only [spec_GoodGraph.l2, allB]
    rw [if_neg (by omega), if_pos trivial, w64s j (by omega)]
  | succ d ih =>
    intro k i hi hk
    obtain ⟨K, hK⟩ : ∃ K, K = k + d + 1 := ⟨_, rfl⟩
    rw [show k + (d + 1) + 1 = K + 1 by omega]
    have ihh := ih k (i + 1) (by omega) hk
    rw [← hK] at ihh
    simp only [spec_GoodGraph.l2]
    rw [if_pos (by omega), if_pos (by omega), if_pos (by omega), rdE_getD, specAlike_f x _ (by omega) K (by omega), Option.bind_some, w64s i (by omega), ihh, rd_nat, rd_nat]
    have hp : pairOK nodes parts j i = (!(sameE x (nodes.getD i z114)) || (parts.getD i 0 == parts.getD j 0)) := by unfold pairOK; rw [hxj]
    have hab : allB (pairOK nodes parts j) i (d + 1) = (pairOK nodes parts j i && allB (pairOK nodes parts j) (i + 1) d) := rfl
    rw [hab, hp]
    cases sameE x (nodes.getD i z114) with
    | false => rw [if_neg (by simp)]; simp
    | true =>
      rw [if_pos rfl, if_pos (by omega), if_pos (by omega), if_pos (by omega)]
      by_cases h : parts.getD i 0 = parts.getD j 0
      · rw [if_pos h, beq_iff_eq.2 h]; simp
      · rw [if_neg h, beq_eq_false_iff_ne.2 h]; simp
theorem specGG_l1 (nodes : List S114) (parts : List Int) (j : Nat) (kids : List Int) (hkl : kids.length ≤ 3) (hin : ∀ c ∈ kids, 0 ≤ c ∧ c < (parts.length : Int)) (a b : Int) (d : Nat) : ∀ (k i : Nat), i + d = kids.length →
    spec_GoodGraph.l1 (k + d + 1) (j : Int) nodes (nodes.length : Int) (j : Int) kids (kids.length : Int) (i : Int) nodes parts a b kids = if ((kids.drop i).all fun c => rd parts c == c) = true then spec_GoodGraph.l2 k (j : Int) 0 nodes (nodes.length : Int) (j : Int) nodes parts a b kids else some false := by
  induction d with
  | zero =>
    intro k i hi
    simp only [spec_GoodGraph.l1]
    rw [if_neg (by omega), List.drop_of_length_le (by omega)]
    rfl
  | succ d ih =>
    intro k i hi
    have hil : i < kids.length := by omega
    have hc := hin _ (List.getElem_mem hil)
    obtain ⟨K, hK⟩ : ∃ K, K = k + d + 1 := ⟨_, rfl⟩
    rw [show k + (d + 1) + 1 = K + 1 by omega]
    have ihh := ih k (i + 1) (by omega)
    rw [← hK] at ihh
    simp only [spec_GoodGraph.l1]
    rw [if_pos (by omega), if_pos (by omega), if_pos (by omega), rd_nat, getD_lt kids i hil, if_pos hc.1, if_pos hc.2, w64s i (by omega), ihh, List.drop_eq_getElem_cons hil, List.all_cons]
    by_cases h : rd parts kids[i] = kids[i]
    · rw [if_pos h, beq_iff_eq.2 h, Bool.true_and]
    · rw [if_neg h, beq_eq_false_iff_ne.2 h, Bool.false_and]; rfl
theorem specGG_l0 (nodes : List S114) (parts : List Int) (hlen : parts.length = nodes.length) (hlo : loose nodes = true) (d : Nat) : ∀ (k i : Nat), i + d = nodes.length → 140 * d + 140 ≤ k →
    spec_GoodGraph.l0 k nodes (nodes.length : Int) (i : Int) nodes parts = some (allB (bodyOK nodes parts) i d) := by
  have hn := loose_len hlo
  induction d with
  | zero =>
    intro k i hi hk
    obtain ⟨k, rfl⟩ : ∃ m, k = m + 1 := ⟨k - 1, by omega⟩
    simp only [spec_GoodGraph.l0, allB]
    rw [if_neg (by omega)]
  | succ d ih =>
    intro k i hi hk
    have hil : i < nodes.length := by omega
    have hx := enOK_kids (loose_at hlo i hil)
    obtain ⟨x, hxe⟩ : ∃ x, nodes.getD i z114 = x := ⟨_, rfl⟩
    rw [hxe] at hx
    obtain ⟨k, rfl⟩ : ∃ m, k = ((m + i + 1) + x.f2.length + 1) + 1 := ⟨k - i - x.f2.length - 3, by omega⟩
    simp only [spec_GoodGraph.l0, allB]
    have h2 := specGG_l2 nodes parts hlen hn i hil x hxe hx.1 i k 0 (by omega) (by omega)
    rw [if_pos (by omega), if_pos (by omega), if_pos (by omega), rdE_getD, hxe]
    have h1 := specGG_l1 nodes parts i x.f2 hx.1 (fun c hc => by have := hx.2 c hc; omega) x.f0 x.f1 x.f2.length (k + i + 1) 0 (by omega)
    rw [List.drop_zero] at h1
    refine h1.trans ?_
    have hb : bodyOK nodes parts i = ((x.f2.all fun c => rd parts c == c) && allB (pairOK nodes parts i) 0 i) := by unfold bodyOK; rw [hxe]
    rw [hb]
    cases (x.f2.all fun c => rd parts c == c) with
    | false => rfl
    | true =>
      rw [if_pos rfl, Bool.true_and]
      refine h2.trans ?_
      cases allB (pairOK nodes parts i) 0 i with
      | false => rfl
      | true => rw [if_pos rfl, Bool.true_and]; exact ih k (i + 1) (by omega) (by omega)
theorem specGG_f (nodes : List S114) (parts : List Int) (hl : nodes.length ≤ 1048576) (hin : ∀ x ∈ nodes, x.f2.length ≤ 1048576) (hp : parts.length ≤ 1048576) (k : Nat) (hk : 2097161 < k) : spec_GoodGraph.f k nodes parts = some (goodG nodes parts) := by
  obtain ⟨k, rfl⟩ : ∃ m, k = m + 1 := ⟨k - 1, by omega⟩
  unfold spec_GoodGraph.f goodG
  rw [l6Nodes_f nodes hl hin (k + 1) (by omega), Option.bind_some]
  cases hlo : loose nodes with
  | false =>
    rw [if_neg (by simp), Bool.and_false, Bool.false_and, Bool.false_and]
    simp [spec_GoodGraph.j0]
  | true =>
    rw [if_pos rfl, Bool.and_true]
    by_cases hlen : parts.length = nodes.length
    · rw [if_pos (by omega), decide_eq_true hlen, Bool.true_and, spec_GoodParts_f parts (k + 1) (by omega), Option.bind_some]
      simp only [spec_GoodGraph.j0]
      cases okParts parts with
      | false => rfl
      | true =>
        have hn := loose_len hlo
        rw [if_neg (by simp), Bool.true_and]
        exact specGG_l0 nodes parts hlen hlo nodes.length k 0 (by omega) (by omega)
    · rw [if_neg (by omega), decide_eq_false hlen, Bool.false_and, Bool.false_and]
      simp [spec_GoodGraph.j0]
theorem VGG_f (kids parts : List Int) (hin : ∀ c ∈ kids, 0 ≤ c ∧ c < (parts.length : Int)) : VGG.f kids parts = some (!(kids.all fun c => rd parts c == c)) := by
  unfold VGG.f
  rw [if_pos (List.all_eq_true.2 fun c hc => decide_eq_true (hin c hc))]
  congr 1
  clear hin
  induction kids with
  | nil => rfl
  | cons c t ih => rw [List.any_cons, List.all_cons, ih, Bool.not_and]; rfl
theorem implGG_l1 (nodes : List S114) (parts : List Int) (hlen : parts.length = nodes.length) (hn : nodes.length ≤ 120) (j : Nat) (hj : j < nodes.length) (x : S114) (hxj : nodes.getD j z114 = x) (hx : x.f2.length ≤ 3) (d : Nat) : ∀ (k i : Nat), i + d = j → 3 < k →
    impl_GoodGraph.l1 (k + d + 1) (j : Int) nodes (nodes.length : Int) (j : Int) (nodes.take j) ((nodes.take j).length : Int) (i : Int) nodes parts x.f0 x.f1 x.f2 = if allB (pairOK nodes parts j) i d = true then impl_GoodGraph.l0 k nodes (nodes.length : Int) ((j + 1 : Nat) : Int) nodes parts else some false := by
  have htl : (nodes.take j).length = j := by rw [List.length_take]; omega
  induction d with
  | zero =>
    intro k i hi hk
    simp only [impl_GoodGraph.l1, allB]
    rw [if_neg (by omega), if_pos trivial, w64s j (by omega)]
  | succ d ih =>
    intro k i hi hk
    obtain ⟨K, hK⟩ : ∃ K, K = k + d + 1 := ⟨_, rfl⟩
    rw [show k + (d + 1) + 1 = K + 1 by omega]
    have ihh := ih k (i + 1) (by omega) hk
    rw [← hK] at ihh
    have htk : (nodes.take j).getD i z114 = nodes.getD i z114 := by
      rw [List.getD_eq_getElem?_getD, List.getD_eq_getElem?_getD, List.getElem?_take, if_pos (by omega)]
    simp only [impl_GoodGraph.l1]
    rw [if_pos (by omega), if_pos (by omega), if_pos (by omega), if_pos (by omega), if_pos (by omega), if_pos (by omega), rdE_getD, htk, implAlike_f x _ (by omega) K (by omega), Option.bind_some, w64s i (by omega), ihh, rd_nat, rd_nat]
    have hp : pairOK nodes parts j i = (!(sameE x (nodes.getD i z114)) || (parts.getD i 0 == parts.getD j 0)) := by unfold pairOK; rw [hxj]
    have hab : allB (pairOK nodes parts j) i (d + 1) = (pairOK nodes parts j i && allB (pairOK nodes parts j) (i + 1) d) := rfl
    rw [hab, hp]
    by_cases h : parts.getD i 0 = parts.getD j 0
    · rw [if_pos h, beq_iff_eq.2 h]; simp
    · rw [if_neg h, beq_eq_false_iff_ne.2 h]
      cases sameE x (nodes.getD i z114) <;> simp
theorem implGG_l0 (nodes : List S114) (parts : List Int) (hlen : parts.length = nodes.length) (hlo : loose nodes = true) (d : Nat) : ∀ (k i : Nat), i + d = nodes.length → 140 * d + 140 ≤ k →
    impl_GoodGraph.l0 k nodes (nodes.length : Int) (i : Int) nodes parts = some (allB (bodyOK nodes parts) i d) := by
  have hn := loose_len hlo
  induction d with
  | zero =>
    intro k i hi hk
    obtain ⟨k, rfl⟩ : ∃ m, k = m + 1 := ⟨k - 1, by omega⟩
    simp only [impl_GoodGraph.l0, allB]
    rw [if_neg (by omega)]
  | succ d ih =>
    intro k i hi hk
    have hil : i < nodes.length := by omega
    have hx := enOK_kids (loose_at hlo i hil)
    obtain ⟨x, hxe⟩ : ∃ x, nodes.getD i z114 = x := ⟨_, rfl⟩
    rw [hxe] at hx
    obtain ⟨k, rfl⟩ : ∃ m, k = (m + i + 1) + 1 := ⟨k - i - 2, by omega⟩
    simp only [impl_GoodGraph.l0, allB]
    have h2 := implGG_l1 nodes parts hlen hn i hil x hxe hx.1 i k 0 (by omega) (by omega)
    rw [if_pos (by omega), if_pos (by omega), if_pos (by omega), rdE_getD, hxe, VGG_f x.f2 parts (fun c hc => by have := hx.2 c hc; omega), Option.bind_some]
    have hb : bodyOK nodes parts i = ((x.f2.all fun c => rd parts c == c) && allB (pairOK nodes parts i) 0 i) := by unfold bodyOK; rw [hxe]
    rw [hb]
    cases (x.f2.all fun c => rd parts c == c) with
    | false => rfl
    | true =>
      rw [if_neg (by simp), if_pos (by omega), Option.bind_some, Bool.true_and, Int.toNat_natCast]
      refine h2.trans ?_
      cases allB (pairOK nodes parts i) 0 i with
      | false => rfl
      | true => rw [if_pos rfl, Bool.true_and]; exact ih k (i + 1) (by omega) (by omega)
theorem implGG_f (nodes : List S114) (parts : List Int) (hl : nodes.length ≤ 1048576) (hp : parts.length ≤ 1048576) (k : Nat) (hk : 2097161 < k) : impl_GoodGraph.f k nodes parts = some (goodG nodes parts) := by
  obtain ⟨k, rfl⟩ : ∃ m, k = m + 1 := ⟨k - 1, by omega⟩
  unfold impl_GoodGraph.f goodG
  by_cases hlen : parts.length = nodes.length
  · rw [if_pos (by omega), decide_eq_true hlen, Bool.true_and, looseOK_f nodes hl (k + 1) (by omega), Option.bind_some]
    cases hlo : loose nodes with
    | false =>
      rw [if_neg (by simp), Bool.false_and, Bool.false_and]
      simp [impl_GoodGraph.j0]
    | true =>
      rw [if_pos rfl, Bool.true_and, impl_GoodParts_f parts (by omega) (k + 1) (by omega), Option.bind_some]
      simp only [impl_GoodGraph.j0]
      cases okParts parts with
      | false => rfl
      | true =>
        have hn := loose_len hlo
        rw [if_neg (by simp), Bool.true_and]
        exact implGG_l0 nodes parts hlen hlo nodes.length k 0 (by omega) (by omega)
  · rw [if_neg (by omega), decide_eq_false hlen, Bool.false_and, Bool.false_and, Bool.false_and]
    simp [impl_GoodGraph.j0]

theorem gg_len {n : List S114} {p : List Int} (h : goodG n p = true) : p.length = n.length ∧ n.length ≤ 120 := by
  unfold goodG at h
  simp only [Bool.and_eq_true, decide_eq_true_eq] at h
  exact ⟨h.1.1.1, loose_len h.1.1.2⟩
theorem gg_kids {n : List S114} {p : List Int} (h : goodG n p = true) (k : Nat) (hk : k < n.length) : (n.getD k z114).f2.length ≤ 3 ∧ ∀ c ∈ (n.getD k z114).f2, 0 ≤ c ∧ c < (k : Int) ∧ rd p c = c := by
  unfold goodG at h
  simp only [Bool.and_eq_true, decide_eq_true_eq] at h
  have h1 := enOK_kids (loose_at h.1.1.2 k hk)
  have h2 := (allB_iff _ _ _).1 h.2 k (Nat.zero_le _) (by omega)
  unfold bodyOK at h2
  rw [Bool.and_eq_true] at h2
  exact ⟨h1.1, fun c hc => ⟨(h1.2 c hc).1, (h1.2 c hc).2, beq_iff_eq.1 (List.all_eq_true.1 h2.1 c hc)⟩⟩
theorem gg_par {n : List S114} {p : List Int} (h : goodG n p = true) (k : Nat) (hk : k < n.length) : goodAt p k := by
  have hl := (gg_len h).1
  unfold goodG at h
  simp only [Bool.and_eq_true, decide_eq_true_eq] at h
  exact (of_decide_eq_true h.1.2).1 k (by omega)

theorem toP_get (t : List S96) (i : Nat) (x : Int × Int) (h : (toP t)[i]? = some x) : i < t.length ∧ (rd_T96 t (i : Int)).f0 = x.1 ∧ (rd_T96 t (i : Int)).f1 = x.2 := by
  unfold toP at h
  rw [List.getElem?_map] at h
  cases hi : t[i]? with
  | none => rw [hi] at h; exact absurd h (by simp)
  | some y =>
    rw [hi] at h
    injection h with h
    obtain ⟨hl, e⟩ := List.getElem?_eq_some_iff.1 hi
    rw [rdN_nat, List.getD_eq_getElem?_getD, hi]
    subst h
    exact ⟨hl, rfl, rfl⟩
/-- The node at the end of a tree's nodes. -/
theorem rd_flat (t : List S96) (pre post : List (Int × Int)) (T : Tree.Tr) (h : toP t = pre ++ T.flat ++ post) (i : Nat) (hi : i + 1 = pre.length + T.flat.length) : i < t.length ∧ (rd_T96 t (i : Int)).f0 = T.op ∧ (rd_T96 t (i : Int)).f1 = T.n := by
  refine toP_get t i (T.op, T.n) ?_
  rw [Tree.flat_eq, List.length_append, List.length_singleton] at hi
  rw [h, Tree.flat_eq, List.append_assoc, List.append_assoc, List.getElem?_append_right (by omega), List.getElem?_append_right (by omega)]
  have e : i - pre.length - (Tree.flats T.kids).length = 0 := by omega
  rw [e]
  rfl
theorem arity_good (k : Nat) (hk : 0 < k) {T : Tree.Tr} (hg : Tree.Good T) : spec_l1Arity.f k T.op = some (T.kids.length : Int) := by
  rw [specArity_f k hk, if_pos (Tree.numOK_op hg.num), hg.arity]
theorem from_f (t : List S96) (hn : t.length ≤ 1048576) : ∀ (n : Nat) (T : Tree.Tr), T.flat.length ≤ n → Tree.Good T → ∀ (pre post : List (Int × Int)), toP t = pre ++ T.flat ++ post → ∀ (i : Nat), i + 1 = pre.length + T.flat.length → ∀ (k : Nat), 2 * T.flat.length + 1 ≤ k →
    spec_l2From.f k t (i : Int) = some (pre.length : Int) := by
  intro n
  induction n with
  | zero => intro T h; have := Tree.flat_pos T; omega
  | succ n ih =>
    intro T hsz hg pre post h i hi k hk
    obtain ⟨hil, ho, -⟩ := rd_flat t pre post T h i hi
    have hf : T.flat.length = (Tree.flats T.kids).length + 1 := by rw [Tree.flat_eq]; simp
    obtain ⟨k, rfl⟩ : ∃ m, k = m + 1 := ⟨k - 1, by omega⟩
    unfold spec_l2From.f
    rw [if_pos (by omega), if_pos (by omega), ho, arity_good k (by omega) hg, Option.bind_some]
    have loop : ∀ (j : Nat), j ≤ T.kids.length → ∀ (post' : List (Int × Int)), toP t = pre ++ Tree.flats (T.kids.take j) ++ post' → ∀ (k : Nat), 2 * (Tree.flats (T.kids.take j)).length + 2 ≤ k →
        spec_l2From.l0 k t ((pre.length + (Tree.flats (T.kids.take j)).length : Nat) : Int) (j : Int) = some (pre.length : Int) := by
      intro j
      induction j with
      | zero =>
        intro _ post' _ k hk
        obtain ⟨k, rfl⟩ : ∃ m, k = m + 1 := ⟨k - 1, by omega⟩
        unfold spec_l2From.l0
        rw [if_neg (by omega)]
        simp [Tree.flats]
      | succ j ihj =>
        intro hj post' hp k hk
        obtain ⟨k, rfl⟩ : ∃ m, k = m + 1 := ⟨k - 1, by omega⟩
        have hj' : j < T.kids.length := by omega
        have hK : T.kids[j]? = some T.kids[j] := List.getElem?_eq_getElem hj'
        have hKg : Tree.Good T.kids[j] := hg.kids _ (List.getElem_mem hj')
        have hKs := Tree.flats_len_mem (List.getElem_mem hj')
        generalize T.kids[j] = K at hK hKg hKs
        have hK1 := Tree.flat_pos K
        have hsucc := Tree.flats_take_succ T.kids j hK
        have hle := Tree.flats_take_le T.kids (j + 1)
        have hsplit : Tree.flats (T.kids.take (j + 1)) = Tree.flats (T.kids.take j) ++ K.flat := by
          obtain ⟨hi', e⟩ := List.getElem?_eq_some_iff.1 hK
          rw [List.take_succ_eq_append_getElem hi', Tree.flats_append, e]
          simp [Tree.flats]
        rw [hsplit] at hp
        have hp1 : toP t = (pre ++ Tree.flats (T.kids.take j)) ++ K.flat ++ post' := by rw [hp]; simp
        have hp2 : toP t = pre ++ Tree.flats (T.kids.take j) ++ (K.flat ++ post') := by rw [hp]; simp
        have hlen : pre.length + T.flat.length ≤ t.length := by
          have := congrArg List.length h
          rw [toP_len, List.length_append, List.length_append] at this
          omega
        unfold spec_l2From.l0
        have e1 : wrap64 (((pre.length + (Tree.flats (T.kids.take (j + 1))).length : Nat) : Int) - 1) = ((pre.length + (Tree.flats (T.kids.take j)).length + K.flat.length - 1 : Nat) : Int) := by unfold wrap64; omega
        have e2 : wrap64 (((j + 1 : Nat) : Int) - 1) = (j : Int) := by unfold wrap64; have := Tree.flats_ge T.kids; omega
        rw [if_pos (by omega), e1, e2, ih K (by omega) hKg (pre ++ Tree.flats (T.kids.take j)) post' hp1 _ (by rw [List.length_append]; omega) k (by omega), Option.bind_some, List.length_append]
        exact ihj (by omega) (K.flat ++ post') hp2 k (by omega)
    have hall := loop T.kids.length (Nat.le_refl _) ([(T.op, T.n)] ++ post) (by rw [List.take_length, h, Tree.flat_eq]; simp) k (by rw [List.take_length]; omega)
    rw [List.take_length] at hall
    rw [show (i : Int) = ((pre.length + (Tree.flats T.kids).length : Nat) : Int) by omega]
    exact hall

/-- The roots of trees that stand one behind the other from a place on. -/
def roots : Nat → List Tree.Tr → List Int
  | _, [] => []
  | b, k :: ks => (((b + k.flat.length : Nat) : Int) - 1) :: roots (b + k.flat.length) ks
theorem roots_len (ks : List Tree.Tr) : ∀ b, (roots b ks).length = ks.length := by
  induction ks with
  | nil => intro b; rfl
  | cons x t ih => intro b; simp [roots, ih]
theorem roots_get (ks : List Tree.Tr) : ∀ (b j : Nat), j < ks.length → (roots b ks).getD j 0 = ((b + (Tree.flats (ks.take (j + 1))).length : Nat) : Int) - 1 := by
  induction ks with
  | nil => intro b j h; exact absurd h (Nat.not_lt_zero _)
  | cons x t ih =>
    intro b j h
    cases j with
    | zero => simp [roots, Tree.flats]
    | succ j =>
      have := ih (b + x.flat.length) j (by simpa using h)
      simp only [roots, List.getD_cons_succ, List.take_succ_cons, Tree.flats, List.length_append]
      rw [this]
      congr 2
      omega
theorem roots_drop (ks : List Tree.Tr) (b j : Nat) {K : Tree.Tr} (h : ks[j]? = some K) : roots (b + (Tree.flats (ks.take j)).length) (ks.drop j) = (((b + (Tree.flats (ks.take (j + 1))).length : Nat) : Int) - 1) :: roots (b + (Tree.flats (ks.take (j + 1))).length) (ks.drop (j + 1)) := by
  obtain ⟨hi, e⟩ := List.getElem?_eq_some_iff.1 h
  rw [List.drop_eq_getElem_cons hi, e]
  have := Tree.flats_take_succ ks j h
  rw [this, ← Nat.add_assoc]
  rfl
/-- A kid's nodes among all. -/
theorem kid_at (l pre post : List (Int × Int)) (T : Tree.Tr) (h : l = pre ++ T.flat ++ post) (j : Nat) (K : Tree.Tr) (hK : T.kids[j]? = some K) : l = (pre ++ Tree.flats (T.kids.take j)) ++ K.flat ++ (Tree.flats (T.kids.drop (j + 1)) ++ [(T.op, T.n)] ++ post) := by
  obtain ⟨hi, e⟩ := List.getElem?_eq_some_iff.1 hK
  have h1 : T.kids = T.kids.take j ++ (K :: T.kids.drop (j + 1)) := by rw [← e, ← List.drop_eq_getElem_cons hi, List.take_append_drop]
  rw [h, Tree.flat_eq]
  conv => lhs; rw [h1, Tree.flats_append]
  simp [Tree.flats]
theorem parts_f (t : List S96) (hn : t.length ≤ 1048576) (T : Tree.Tr) (hg : Tree.Good T) (pre post : List (Int × Int)) (h : toP t = pre ++ T.flat ++ post) (i : Nat) (hi : i + 1 = pre.length + T.flat.length) (k : Nat) (hk : 2 * T.flat.length + 3 ≤ k) :
    spec_l2Parts.f k t (i : Int) = some (roots pre.length T.kids) := by
  obtain ⟨hil, ho, -⟩ := rd_flat t pre post T h i hi
  have hf : T.flat.length = (Tree.flats T.kids).length + 1 := by rw [Tree.flat_eq]; simp
  have hlen : pre.length + T.flat.length ≤ t.length := by
    have := congrArg List.length h
    rw [toP_len, List.length_append, List.length_append] at this
    omega
  have hge := Tree.flats_ge T.kids
  unfold spec_l2Parts.f
  rw [if_pos (by omega), if_pos (by omega), ho, arity_good k (by omega) hg, Option.bind_some]
  have loop : ∀ (j : Nat), j ≤ T.kids.length → ∀ (k : Nat), 2 * (Tree.flats (T.kids.take j)).length + 2 ≤ k →
      spec_l2Parts.l0 k t (roots (pre.length + (Tree.flats (T.kids.take j)).length) (T.kids.drop j)) (((pre.length + (Tree.flats (T.kids.take j)).length : Nat) : Int) - 1) (j : Int) = some (roots pre.length T.kids) := by
    intro j
    induction j with
    | zero =>
      intro _ k hk
      obtain ⟨k, rfl⟩ : ∃ m, k = m + 1 := ⟨k - 1, by omega⟩
      unfold spec_l2Parts.l0
      rw [if_neg (by omega)]
      simp [Tree.flats]
    | succ j ihj =>
      intro hj k hk
      obtain ⟨k, rfl⟩ : ∃ m, k = m + 1 := ⟨k - 1, by omega⟩
      have hj' : j < T.kids.length := by omega
      have hK : T.kids[j]? = some T.kids[j] := List.getElem?_eq_getElem hj'
      have hKg : Tree.Good T.kids[j] := hg.kids _ (List.getElem_mem hj')
      generalize T.kids[j] = K at hK hKg
      have hK1 := Tree.flat_pos K
      have hsucc := Tree.flats_take_succ T.kids j hK
      have hle := Tree.flats_take_le T.kids (j + 1)
      have hat := kid_at _ _ _ T h j K hK
      have e1 : (((pre.length + (Tree.flats (T.kids.take (j + 1))).length : Nat) : Int) - 1) = ((pre.length + (Tree.flats (T.kids.take j)).length + K.flat.length - 1 : Nat) : Int) := by omega
      have hfrom := from_f t hn K.flat.length K (Nat.le_refl _) hKg _ _ hat (pre.length + (Tree.flats (T.kids.take j)).length + K.flat.length - 1) (by rw [List.length_append]; omega) k (by omega)
      rw [List.length_append] at hfrom
      have e2 : wrap64 (((pre.length + (Tree.flats (T.kids.take j)).length : Nat) : Int) - 1) = ((pre.length + (Tree.flats (T.kids.take j)).length : Nat) : Int) - 1 := by unfold wrap64; omega
      have e3 : wrap64 (((j + 1 : Nat) : Int) - 1) = (j : Int) := by unfold wrap64; omega
      have hrl := roots_len (T.kids.drop (j + 1)) (pre.length + (Tree.flats (T.kids.take (j + 1))).length)
      rw [List.length_drop] at hrl
      have hd := roots_drop T.kids pre.length j hK
      unfold spec_l2Parts.l0
      rw [if_pos (by omega), Option.bind_some, if_pos (by rw [hrl]; simp; omega), e1, hfrom, Option.bind_some, e2, e3]
      have := ihj (by omega) k (by omega)
      rw [hd, e1] at this
      exact this
  have hall := loop T.kids.length (Nat.le_refl _) k (by rw [List.take_length]; omega)
  rw [List.take_length, List.drop_length] at hall
  have e : wrap64 ((i : Int) - 1) = ((pre.length + (Tree.flats T.kids).length : Nat) : Int) - 1 := by unfold wrap64; omega
  rw [e]
  exact hall

theorem cls_f (n : List S114) (p : List Int) (a : Int) (hpn : p.length = n.length) (hl : n.length ≤ 120) : spec_l7Class.f n p a = some (clsB p a) := by
  unfold spec_l7Class.f clsB
  rw [w64 ((n.length : Int) - 1) (by omega) (by omega), l1In_f, Option.bind_some]
  by_cases h : 0 ≤ a ∧ a ≤ (n.length : Int) - 1
  · rw [decide_eq_true h, if_pos rfl, if_pos h.1, if_pos (by omega), decide_eq_true (by omega), Bool.true_and]
  · rw [decide_eq_false h, if_neg (by simp), decide_eq_false (by omega), Bool.false_and]
theorem bind_run (n : List S114) (p b : List Int) (hpn : p.length = n.length) (hl : n.length ≤ 120) (hb : b.length = 4) (d : Nat) : ∀ (k i : Nat), i + d = b.length → d < k → spec_l7Bind.l0 k b (b.length : Int) (i : Int) n p = some (!((b.drop i).any (offB p))) := by
  induction d with
  | zero =>
    intro k i hi hk
    obtain ⟨k, rfl⟩ : ∃ m, k = m + 1 := ⟨k - 1, by omega⟩
    simp only [spec_l7Bind.l0]
    rw [if_neg (by omega), List.drop_eq_nil_of_le (by omega)]
    rfl
  | succ d ih =>
    intro k i hi hk
    obtain ⟨k, rfl⟩ : ∃ m, k = m + 1 := ⟨k - 1, by omega⟩
    have hil : i < b.length := by omega
    have e : rd b (i : Int) = b[i] := by rw [rd_nat, getD_lt b i hil]
    simp only [spec_l7Bind.l0]
    rw [if_pos (by omega), if_pos (by omega), if_pos (by omega), e, w64s i (by omega), ih k (i + 1) (by omega) (by omega), List.drop_eq_getElem_cons hil, List.any_cons, cls_f n p _ hpn hl, Option.bind_some]
    unfold offB
    by_cases h : b[i] = -1
    · rw [if_pos h, h]; rfl
    · rw [if_neg h]
      have hx : (b[i] != -1) = true := by rw [bne_iff_ne]; exact h
      rw [hx, Bool.true_and]
      cases clsB p b[i] with
      | true => rw [if_pos rfl]; rfl
      | false => rw [if_neg (by simp)]; rfl
theorem bind_f (n : List S114) (p b : List Int) (hpn : p.length = n.length) (hl : n.length ≤ 120) (k : Nat) (hk : 8 ≤ k) : spec_l7Bind.f k n p b = some (bindB p b) := by
  unfold spec_l7Bind.f bindB
  by_cases h : b.length = 4
  · rw [if_pos (by omega), decide_eq_true h, Bool.true_and]
    exact bind_run n p b hpn hl h b.length k 0 (by omega) (by omega)
  · rw [if_neg (by omega), decide_eq_false h]; rfl
theorem fit_good {n : List S114} {p : List Int} (hg : goodG n p = true) : kidsFit n p = true := by
  unfold kidsFit
  rw [List.all_eq_true]
  intro x hx
  obtain ⟨i, hi, rfl⟩ := List.getElem_of_mem hx
  have hl := gg_len hg
  have hlo : loose n = true := by
    unfold goodG at hg
    simp only [Bool.and_eq_true] at hg
    exact hg.1.1.2
  have h := loose_at hlo i hi
  have e : n.getD i z114 = n[i] := by rw [List.getD_eq_getElem?_getD, List.getElem?_eq_getElem hi]; rfl
  rw [e] at h
  unfold enOK at h
  rw [Bool.and_eq_true, Bool.and_eq_true] at h
  rw [Bool.and_eq_true]
  refine ⟨h.1.2, ?_⟩
  rw [List.all_eq_true]
  intro c hc
  have := of_decide_eq_true (List.all_eq_true.1 h.2 c hc)
  exact decide_eq_true (by omega)
theorem is_l1 (n : List S114) (p : List Int) (t : List S96) (i part : Int) (b : List Int) (ks : List Tree.Tr) (rs nl : List Int) (hr : rs.length = ks.length) (hl : nl.length = ks.length) (h3 : ks.length ≤ 3) (hp : ∀ c ∈ nl, rd p c = c) (x33 x34 op nv f0 f1 : Int) (F : Nat)
    (hk : ∀ j (h : j < ks.length), ∀ k, F ≤ k → spec_l7Is.f k n p t (rs.getD j 0) (nl.getD j 0) b = some (matchT n p b ks[j] (nl.getD j 0))) (d : Nat) : ∀ (m k : Nat) (q : Bool), m + d = ks.length → F ≤ k →
    spec_l7Is.l1 (k + d + 1) t i part b q n x33 x34 rs (rs.length : Int) (m : Int) n p op nv f0 f1 nl = if (q && matchTs n p b (ks.drop m) (nl.drop m)) = true then some true else spec_l7Is.l0 k t i part b n x33 (wrap64 (x34 + 1)) n p op nv := by
  induction d with
  | zero =>
    intro m k q hm hF
    simp only [spec_l7Is.l1]
    rw [if_neg (by omega), List.drop_eq_nil_of_le (by omega), matchTs, Bool.and_true]
  | succ d ih =>
    intro m k q hm hF
    obtain ⟨K, hK⟩ : ∃ K, K = k + d + 1 := ⟨_, rfl⟩
    rw [show k + (d + 1) + 1 = K + 1 by omega]
    simp only [spec_l7Is.l1]
    have hmk : m < ks.length := by omega
    rw [if_pos (by omega), if_pos (by omega), if_pos (by omega), w64s m (by omega)]
    have hd1 : ks.drop m = ks[m] :: ks.drop (m + 1) := List.drop_eq_getElem_cons hmk
    have hml : m < nl.length := by omega
    have hd2 : nl.drop m = nl[m] :: nl.drop (m + 1) := List.drop_eq_getElem_cons hml
    have eg : nl.getD m 0 = nl[m] := getD_lt nl m hml
    cases q with
    | true =>
      rw [if_pos rfl, if_pos (by omega), rd_nat, rd_nat, hk m hmk K (by omega), Option.bind_some, hK, ih (m + 1) k _ (by omega) hF, hd1, hd2, matchTs, Bool.true_and]
      show (if (matchT n p b ks[m] (nl.getD m 0) && _) = true then _ else _) = if (matchT n p b ks[m] (rd p nl[m]) && _) = true then _ else _
      rw [hp _ (List.getElem_mem hml), eg]
      rfl
    | false =>
      rw [if_neg (by simp), hK, ih (m + 1) k _ (by omega) hF, Bool.false_and, Bool.false_and]
theorem is_l0 (n : List S114) (p : List Int) (hg : goodG n p = true) (t : List S96) (b : List Int) (T : Tree.Tr) (hT : Tree.Good T) (i : Int) (rs : List Int) (hr : rs.length = T.kids.length) (part : Int) (F : Nat) (hparts : ∀ k, F ≤ k → spec_l2Parts.f k t i = some rs)
    (hk : ∀ (nl : List Int), nl.length = T.kids.length → ∀ j (h : j < T.kids.length), ∀ k, F ≤ k → spec_l7Is.f k n p t (rs.getD j 0) (nl.getD j 0) b = some (matchT n p b T.kids[j] (nl.getD j 0))) (d : Nat) : ∀ (j k : Nat), j + d = n.length → F + 8 * d + 8 ≤ k → (∀ j', j' < j → nodeM n p b T part j' = false) →
    spec_l7Is.l0 k t i part b n (n.length : Int) (j : Int) n p T.op T.n = some ((List.range n.length).any (nodeM n p b T part)) := by
  obtain ⟨hpn, hn⟩ := gg_len hg
  induction d with
  | zero =>
    intro j k hj hF hb
    obtain ⟨k, rfl⟩ : ∃ m, k = m + 1 := ⟨k - 1, by omega⟩
    simp only [spec_l7Is.l0]
    rw [if_neg (by omega)]
    congr 1
    symm
    rw [List.any_eq_false]
    intro x hx
    rw [hb x (by have := List.mem_range.1 hx; omega)]
    simp
  | succ d ih =>
    intro j k hj hF hb
    obtain ⟨k, rfl⟩ : ∃ m, k = m + 1 + 1 := ⟨k - 2, by omega⟩
    have hjn : j < n.length := by omega
    have hnext : ∀ k', F + 8 * d + 8 ≤ k' → nodeM n p b T part j = false → spec_l7Is.l0 k' t i part b n (n.length : Int) (wrap64 ((j : Int) + 1)) n p T.op T.n = some ((List.range n.length).any (nodeM n p b T part)) := by
      intro k' hk' hf
      rw [w64s j (by omega)]
      refine ih (j + 1) k' (by omega) hk' (fun j' hj' => ?_)
      by_cases e : j' = j
      · rw [e]; exact hf
      · exact hb j' (by omega)
    have hfit := kidsFit_at (fit_good hg) j hjn
    have hkid := gg_kids hg j hjn
    have hM : nodeM n p b T part j = ((rd p (j : Int) == part && ((n.getD j z114).f0 == T.op && (n.getD j z114).f1 == T.n)) && matchTs n p b T.kids (n.getD j z114).f2) := rfl
    simp only [spec_l7Is.l0]
    rw [if_pos (by omega), if_pos (by omega), if_pos (by omega), if_pos (by omega), rdE_getD]
    have hany : nodeM n p b T part j = true → (List.range n.length).any (nodeM n p b T part) = true := fun h => List.any_eq_true.2 ⟨j, List.mem_range.2 hjn, h⟩
    generalize n.getD j z114 = x at hfit hkid hM ⊢
    simp only [spec_l7Is.j1]
    by_cases h1 : rd p (j : Int) = part
    · rw [if_pos h1]
      by_cases h2 : x.f0 = T.op
      · rw [if_pos h2]
        by_cases h3 : x.f1 = T.n
        · rw [if_neg (by simp [h3]), hparts k (by omega), Option.bind_some]
          have har := hT.arity
          have har3 := Tree.arity_range T.op
          have hlen : x.f2.length = T.kids.length := by have := hfit.1; rw [h2] at this; omega
          obtain ⟨k0, rfl⟩ : ∃ k0, k = k0 + T.kids.length + 1 := ⟨k - T.kids.length - 1, by omega⟩
          have := is_l1 n p t i part b T.kids rs x.f2 hr hlen (by omega) (fun c hc => (hkid.2 c hc).2.2) (n.length : Int) (j : Int) T.op T.n x.f0 x.f1 F (fun j h k hk' => hk x.f2 hlen j h k hk') T.kids.length 0 k0 true (by omega) (by omega)
          rw [show ((0 : Nat) : Int) = 0 from rfl] at this
          rw [this, List.drop_zero, List.drop_zero, Bool.true_and]
          have hM2 : nodeM n p b T part j = matchTs n p b T.kids x.f2 := by rw [hM, beq_iff_eq.2 h1, beq_iff_eq.2 h2, beq_iff_eq.2 h3]; rfl
          rw [← hM2]
          cases hq : nodeM n p b T part j with
          | true => rw [if_pos rfl, hany hq]
          | false => rw [if_neg (by simp)]; exact hnext k0 (by omega) hq
        · rw [if_pos (by rw [bne_iff_ne]; exact h3)]
          exact hnext k (by omega) (by rw [hM, beq_eq_false_iff_ne.2 h3]; simp)
      · rw [if_neg h2, if_true]
        exact hnext k (by omega) (by rw [hM, beq_eq_false_iff_ne.2 h2]; simp)
    · rw [if_neg h1, if_true]
      exact hnext k (by omega) (by rw [hM, beq_eq_false_iff_ne.2 h1]; simp)
theorem is_f (n : List S114) (p : List Int) (hg : goodG n p = true) (t : List S96) (hn : t.length ≤ 1048576) (b : List Int) (hb : b.length = 4) (d : Nat) : ∀ (T : Tree.Tr), T.flat.length ≤ d → Tree.Good T → ∀ (pre post : List (Int × Int)), toP t = pre ++ T.flat ++ post → ∀ (i : Nat), i + 1 = pre.length + T.flat.length → ∀ (part : Int) (k : Nat), 2000 * T.flat.length ≤ k →
    spec_l7Is.f k n p t (i : Int) part b = some (matchT n p b T part) := by
  induction d with
  | zero => intro T h; have := Tree.flat_pos T; omega
  | succ d ih =>
    intro T hd hT pre post h i hi part k hk
    obtain ⟨hil, ho, hv⟩ := rd_flat t pre post T h i hi
    have hpos := Tree.flat_pos T
    have hf : T.flat.length = (Tree.flats T.kids).length + 1 := by rw [Tree.flat_eq]; simp
    obtain ⟨k, rfl⟩ : ∃ m, k = m + 1 := ⟨k - 1, by omega⟩
    obtain ⟨hpn, hnl⟩ := gg_len hg
    simp only [spec_l7Is.f]
    rw [if_pos (by omega), if_pos (by omega), ho, hv, matchT_eq]
    by_cases hop : T.op = 2
    · rw [if_pos hop, if_pos hop]
      have hnum := hT.num
      unfold Tree.numOK at hnum
      rw [if_neg (by omega), if_pos hop] at hnum
      obtain ⟨n0, n4⟩ := of_decide_eq_true hnum
      rw [if_pos n0, if_pos (by omega)]
    · rw [if_neg hop, if_neg hop]
      have hroots := roots_len T.kids pre.length
      refine is_l0 n p hg t b T hT (i : Int) (roots pre.length T.kids) hroots part (2000 * (Tree.flats T.kids).length + 5) (fun k hk => parts_f t hn T hT pre post h i hi k (by omega)) (fun nl hnl j hj k hk => ?_) n.length 0 k (by omega) (by omega) (fun j hj => absurd hj (Nat.not_lt_zero _))
      have hK : T.kids[j]? = some T.kids[j] := List.getElem?_eq_getElem hj
      have hKg : Tree.Good T.kids[j] := hT.kids _ (List.getElem_mem hj)
      generalize T.kids[j] = K at hK hKg ⊢
      have hK1 := Tree.flat_pos K
      have hsucc := Tree.flats_take_succ T.kids j hK
      have hle := Tree.flats_take_le T.kids (j + 1)
      have hat := kid_at _ _ _ T h j K hK
      rw [roots_get T.kids pre.length j hj, show (((pre.length + (Tree.flats (T.kids.take (j + 1))).length : Nat) : Int) - 1) = ((pre.length + (Tree.flats (T.kids.take j)).length + K.flat.length - 1 : Nat) : Int) by omega]
      exact ih K (by omega) hKg _ _ hat _ (by rw [List.length_append]; omega) _ k (by omega)
theorem pat_f (t : List S96) (hn : t.length ≤ 1048576) (k : Nat) (hk : t.length + 1 < k) : spec_GoodPattern.f k t = some (patTree t).isSome := by
  unfold spec_GoodPattern.f patTree
  rw [specGood_f t hn k hk, Option.bind_some]
  by_cases h : t.length ≤ 7
  · rw [if_pos h, decide_eq_true (by omega)]
    cases (Tree.treeOf (toP t)).isSome <;> rfl
  · rw [if_neg h, decide_eq_false (by omega)]
    cases (Tree.treeOf (toP t)).isSome <;> rfl
theorem is_key (n : List S114) (p : List Int) (t : List S96) (a : Int) (b : List Int) (hn : n.length ≤ 1048576) (hin : ∀ x ∈ n, x.f2.length ≤ 1048576) (hp : p.length ≤ 1048576) (ht : t.length ≤ 1048576) (k : Nat) (hk : 4194304 ≤ k) : ∃ r : Bool × Bool, spec_IsMatch.f k n p t a b = some r ∧ impl_IsMatch.f k n p t a b = some r := by
  unfold spec_IsMatch.f impl_IsMatch.f
  rw [specGG_f n p hn hin hp k (by omega), implGG_f n p hn hp k (by omega), pat_f t ht k (by omega)]
  simp only [Option.bind_some]
  cases hg : goodG n p with
  | false => exact ⟨(false, false), rfl, by cases patTree t <;> rfl⟩
  | true =>
    obtain ⟨hpn, hnl⟩ := gg_len hg
    rw [cls_f n p a hpn hnl, bind_f n p b hpn hnl k (by omega)]
    simp only [Option.bind_some, if_true]
    cases hT : patTree t with
    | none => exact ⟨(false, false), rfl, rfl⟩
    | some T =>
      simp only [Option.isSome_some, if_true]
      cases clsB p a with
      | false => exact ⟨(false, false), rfl, rfl⟩
      | true =>
        simp only [if_true]
        cases hbk : bindB p b with
        | false => exact ⟨(false, false), rfl, rfl⟩
        | true =>
          simp only [if_true]
          rw [if_pos ⟨hpn, fit_good hg⟩]
          have hb4 : b.length = 4 := by unfold bindB at hbk; rw [Bool.and_eq_true] at hbk; exact of_decide_eq_true hbk.1
          have hT2 : t.length ≤ 7 ∧ Tree.treeOf (toP t) = some T := by
            unfold patTree at hT
            split at hT
            · exact ⟨by assumption, hT⟩
            · exact absurd hT (by simp)
          obtain ⟨hgd, hfl, -⟩ := Tree.treeOf_flat hT2.2
          have hlen : T.flat.length = t.length := by rw [hfl, toP_len]
          have hpos := Tree.flat_pos T
          have e : wrap64 ((t.length : Int) - 1) = ((t.length - 1 : Nat) : Int) := by unfold wrap64; omega
          rw [e, is_f n p hg t ht b hb4 7 T (by omega) hgd [] [] (by rw [hfl]; simp) (t.length - 1) (by rw [hlen]; simp; omega) a k (by omega)]
          exact ⟨_, rfl, rfl⟩
theorem FnExactIsMatch : RdFnExactIsMatch.Pure := by
  rintro ⟨n, p⟩ l a b ⟨hn, hp⟩ hl hl2 hll _ _ hbl _
  simp only at hn hp hl hl2 ⊢
  refine ⟨100000000, ?_⟩
  unfold laws_FnExactIsMatch.f
  by_cases hb1 : (b.length : Int) > 1048576
  · rw [if_pos hb1]
  rw [if_neg hb1]
  obtain ⟨t, ht, hh⟩ := szG_f n p 1048576 (by omega) (by omega) hl (fun x hx => (hn.2 x hx).2.2.1) hl2 100000000 (by omega)
  rw [ht, Option.bind_some]
  by_cases h : t < 0
  · rw [if_pos h]
  · obtain ⟨t0, t1, h1, h2, h3, h4⟩ := hh.resolve_left h
    rw [if_neg h, szN_f l t t0 t1 hll, Option.bind_some]
    by_cases h' : t - (l.length : Int) < 0
    · simp only [if_pos h']; rfl
    · have hll2 : l.length ≤ 1048576 := by omega
      rw [if_neg h', if_neg h']
      have hlen : (n.map cvE).length = n.length := List.length_map _
      have hlenN : (l.map cvN).length = l.length := List.length_map _
      have hto := toG_f n p h1 h2 h3 100000000 (by omega)
      have hto' := toG_f n p h1 h2 h3 99999999 (by omega)
      have htn := toN_f l hll2 100000000 (by omega)
      have htn' := toN_f l hll2 99999999 (by omega)
      have htb := laws_toIntS_f b (by omega) 100000000 (by omega)
      have htb' := laws_toIntS_f b (by omega) 99999999 (by omega)
      have hin := cvE_len n h2
      obtain ⟨r, hs, hi⟩ := is_key (n.map cvE) p (l.map cvN) a b (by omega) hin h3 (by omega) 100000000 (by omega)
      have hq := eqG_f (n.map cvE) p (by omega) hin h3 99999999 (by omega)
      have hqn := eqN_f (l.map cvN) (by omega) 99999999 (by omega)
      have hqb := laws_eqIntS_f b (by omega) 99999999 (by omega)
      generalize n.map cvE = L at *
      generalize l.map cvN = M at *
      simp only [hto, htn, htb, hs, hi, Option.bind_some, if_true, bne_self_eq_false]
      simp only [laws_FnExactIsMatch.j0, hto', htn', htb', hq, hqn, hqb, Option.bind_some, if_true, Bool.false_eq_true, if_false]

end Go.Proofs.Ytakblgcheakbnaa.Pure
