/- The program's TermOf and the reference's answer alike at every list of products; no condition. -/
import Derived.Test.YtlneknaiimmfmaaPFnExactTermOfx9
import Derived.Test.YtlneknaiimmfmaaRdFnExactTermOf
set_option linter.unusedVariables false
set_option linter.unusedSimpArgs false
namespace Go.Proofs.Ytlneknaiimmfmaa.Pure
open Go.RowKit Go.Proofs.Ytlneknaiimmfmaa.PFnExactTermOf Go.Proofs.YtlneknaiimmfmaaW.PrintWords Go.Proofs.YtlneknaiimmfmaaW.PrintLast Go.Proofs.YtlneknaiimmfmaaW.PrintMore

theorem wn64s (i : Nat) (h : i ≤ 140737488355328) : wrap64 ((i : Int) + 1) = ((i + 1 : Nat) : Int) := by unfold wrap64; omega
theorem rdN_nat (l : List S87) (i : Nat) : rd_T87 l (i : Int) = l.getD i z87 := by simp [rd_T87]
theorem eqN_run (x0 : List S87) (hn : x0.length ≤ 140737488351232) (d : Nat) : ∀ (k i : Nat), i + d = x0.length → d < k → laws_eqNodeS.l0 k x0 x0 (i : Int) = some true := by
  induction d with
  | zero =>
    intro k i hi hk
    obtain ⟨k, rfl⟩ : ∃ m, k = m + 1 := ⟨k - 1, by omega⟩
    simp only [laws_eqNodeS.l0]
    rw [if_neg (by omega)]
  | succ d ih =>
    intro k i hi hk
    obtain ⟨k, rfl⟩ : ∃ m, k = m + 1 := ⟨k - 1, by omega⟩
    simp only [laws_eqNodeS.l0, laws_eqNode.f]
    rw [if_pos (by omega), if_pos (by omega), if_pos (by omega), if_pos trivial, if_pos trivial, Option.bind_some, if_pos rfl, wn64s i (by omega)]
    exact ih k (i + 1) (by omega) (by omega)
theorem eqN_f (l : List S87) (hn : l.length ≤ 140737488351232) (k : Nat) (hk : l.length < k) : laws_eqNodeS.f k l l = some true := by
  unfold laws_eqNodeS.f
  rw [if_pos rfl]
  exact eqN_run l hn l.length k 0 (by omega) hk

theorem specArity_f (k : Nat) (hk : 0 < k) (op : Int) : spec_l1Arity.f k op = some (if 1 ≤ op ∧ op ≤ 11 then Tree.arity op else -1) := by
  obtain ⟨k, rfl⟩ : ∃ m, k = m + 1 := ⟨k - 1, by omega⟩
  unfold spec_l1Arity.f Tree.arity
  by_cases h1 : op = 1
  · subst h1; rfl
  · rw [if_neg h1]
    by_cases h2 : op = 2
    · subst h2; rfl
    · rw [if_neg (by omega : ¬ (op = 1 ∨ op = 2))]
      simp only [spec_l1Arity.j0]
      rw [if_neg (by simpa using h2)]
      by_cases h3 : op = 3
      · subst h3; rfl
      · rw [if_neg h3, if_neg h3]
        by_cases h4 : op = 11
        · subst h4; rfl
        · rw [if_neg h4, if_neg h4]
          unfold spec_l1In.f
          by_cases h5 : op ≥ 4
          · by_cases h6 : op ≤ 10
            · rw [if_pos h5, Option.bind_some, decide_eq_true h6, if_pos rfl, if_pos (by omega)]
            · rw [if_pos h5, Option.bind_some, decide_eq_false h6, if_neg (by simp), if_neg (by omega)]
          · rw [if_neg h5, Option.bind_some, if_neg (by simp), if_neg (by omega)]
/-- How many trees a list of nodes leaves. -/
def goodB (r : Option (List Tree.Tr × List Tree.Tr)) : Bool := match r with | some s => s.1.length == 1 | none => false
theorem specGood_run (t : List S87) (hn : t.length ≤ 1048576) (d : Nat) : ∀ (k i : Nat) (s : List Tree.Tr × List Tree.Tr), i + d = t.length → Tree.build (toP (t.take i)) ([], []) = some s → d + 1 < k →
    spec_GoodTerm.l0 k (s.1.length : Int) t (t.length : Int) (i : Int) = some (goodB (Tree.build (toP t) ([], []))) := by
  induction d with
  | zero =>
    intro k i s hi hs hk
    obtain ⟨k, rfl⟩ : ∃ m, k = m + 1 := ⟨k - 1, by omega⟩
    simp only [spec_GoodTerm.l0]
    have e : t.take i = t := List.take_of_length_le (by omega)
    rw [e] at hs
    rw [if_neg (by omega), hs]
    show some ((s.1.length : Int) == 1) = some (s.1.length == 1)
    congr 1
    rw [Bool.eq_iff_iff]; simp; omega
  | succ d ih =>
    intro k i s hi hs hk
    obtain ⟨k, rfl⟩ : ∃ m, k = m + 1 := ⟨k - 1, by omega⟩
    simp only [spec_GoodTerm.l0]
    rw [if_pos (by omega), if_pos (by omega), if_pos (by omega), specArity_f k (by omega), Option.bind_some, wn64s i (by omega), rdN_nat]
    have hlen := (Tree.build_len _ _ _ hs).1
    rw [toP_len, List.length_take] at hlen
    have hl2 : s.1.length ≤ t.length := by simp at hlen; omega
    have hsucc := build_succ t i (by omega) hs
    have hfail := build_fail t i (by omega) hs
    generalize t.getD i z87 = x at hsucc hfail ⊢
    obtain ⟨op, n⟩ := x
    simp only at hsucc hfail ⊢
    have hr := Tree.arity_range op
    have hbad : (Tree.numOK op n = true ∧ Tree.arity op ≤ (s.1.length : Int)) → False → True := fun _ _ => trivial
    by_cases hst : Tree.numOK op n = true ∧ Tree.arity op ≤ (s.1.length : Int)
    · have hstep : Tree.step s (op, n) = some (s.1.take (s.1.length - (Tree.arity op).toNat) ++ [.mk op n (s.1.drop (s.1.length - (Tree.arity op).toNat))], s.2 ++ [.mk op n (s.1.drop (s.1.length - (Tree.arity op).toNat))]) := if_pos hst
      rw [hstep] at hsucc
      have hgo := ih k (i + 1) _ (by omega) hsucc (by omega)
      have hlen' : (((s.1.take (s.1.length - (Tree.arity op).toNat) ++ [Tree.Tr.mk op n (s.1.drop (s.1.length - (Tree.arity op).toNat))]).length : Nat) : Int) = wrap64 ((s.1.length : Int) + wrap64 (1 - Tree.arity op)) := by
        rw [List.length_append, List.length_take, List.length_singleton]
        unfold wrap64
        omega
      simp only [hlen'] at hgo
      obtain ⟨hN, hA⟩ := hst
      unfold Tree.numOK at hN
      have hop : 1 ≤ op ∧ op ≤ 11 := by
        by_cases h1 : op = 1
        · omega
        · rw [if_neg h1] at hN
          by_cases h2 : op = 2
          · omega
          · rw [if_neg h2] at hN
            have := of_decide_eq_true hN
            omega
      rw [if_pos hop, if_neg (by omega), if_neg (by omega)]
      by_cases h2 : op = 2
      · subst h2
        rw [if_neg (by omega), if_pos rfl] at hN
        have hN := of_decide_eq_true hN
        rw [if_pos rfl, if_neg (by omega), if_neg (by omega), if_neg (by decide)]
        exact hgo
      · rw [if_neg h2]
        by_cases h1 : op = 1
        · subst h1
          rw [if_neg (by decide)]
          exact hgo
        · rw [if_neg h1, if_neg h2] at hN
          have hN := of_decide_eq_true hN
          have hpos : Tree.arity op > 0 := by
            unfold Tree.arity
            rw [if_neg (by omega)]
            split
            · omega
            · split <;> omega
          rw [if_pos hpos, if_pos hN.2.2]
          exact hgo
    · rw [hfail (if_neg hst)]
      show _ = some false
      by_cases hop : 1 ≤ op ∧ op ≤ 11
      · rw [if_pos hop, if_neg (by omega)]
        by_cases ha : (s.1.length : Int) < Tree.arity op
        · rw [if_pos ha]
        · rw [if_neg ha]
          have hN : ¬ Tree.numOK op n = true := fun h => hst ⟨h, by omega⟩
          unfold Tree.numOK at hN
          by_cases h2 : op = 2
          · subst h2
            rw [if_neg (by omega), if_pos rfl] at hN
            have hN : ¬ (0 ≤ n ∧ n < 4) := fun h => hN (decide_eq_true h)
            rw [if_pos rfl]
            by_cases hn0 : n < 0
            · rw [if_pos hn0]
            · rw [if_neg hn0, if_pos (by omega)]
          · rw [if_neg h2]
            by_cases h1 : op = 1
            · exact absurd (if_pos h1) hN
            · rw [if_neg h1, if_neg h2] at hN
              have hN : ¬ (1 ≤ op ∧ op ≤ 11 ∧ n = 0) := fun h => hN (decide_eq_true h)
              have hpos : Tree.arity op > 0 := by
                unfold Tree.arity
                rw [if_neg (by omega)]
                split
                · omega
                · split <;> omega
              rw [if_pos hpos, if_neg (by omega)]
      · rw [if_neg hop, if_pos (by omega)]
theorem treeOf_isSome (t : List (Int × Int)) : (Tree.treeOf t).isSome = (decide (1 ≤ t.length ∧ t.length ≤ 40) && goodB (Tree.build t ([], []))) := by
  unfold Tree.treeOf Tree.treesOf
  by_cases h : 1 ≤ t.length ∧ t.length ≤ 40
  · rw [if_pos h, decide_eq_true h, Bool.true_and]
    cases hb : Tree.build t ([], []) with
    | none => rfl
    | some s =>
      show (Option.bind (if s.1.length = 1 then some s.2 else none) List.getLast?).isSome = (s.1.length == 1)
      by_cases h1 : s.1.length = 1
      · have hl := (Tree.build_len _ _ _ hb).2
        rw [if_pos h1, Option.bind_some, h1]
        cases hs : s.2 with
        | nil => rw [hs] at hl; simp at hl; omega
        | cons a l => rw [List.getLast?_cons]; rfl
      · rw [if_neg h1]
        simp [h1]
  · rw [if_neg h, decide_eq_false h]; rfl
theorem specGood_f (t : List S87) (hn : t.length ≤ 1048576) (k : Nat) (hk : t.length + 1 < k) : spec_GoodTerm.f k t = some (Tree.treeOf (toP t)).isSome := by
  unfold spec_GoodTerm.f spec_l1In.f
  rw [treeOf_isSome, toP_len]
  by_cases h0 : 1 ≤ t.length
  · rw [if_pos (by omega), Option.bind_some]
    by_cases h1 : t.length ≤ 40
    · rw [decide_eq_true (by omega), if_pos rfl, decide_eq_true (⟨h0, h1⟩ : 1 ≤ t.length ∧ t.length ≤ 40), Bool.true_and]
      exact specGood_run t hn t.length k 0 ([], []) (by omega) rfl hk
    · rw [decide_eq_false (by omega), if_neg (by simp), decide_eq_false (by omega)]; rfl
  · rw [if_neg (by omega), Option.bind_some, if_neg (by simp), decide_eq_false (by omega)]; rfl

/-- What markNodeS writes: numbers from one on. -/
def mkN (m0 : Nat) (j : Nat) : S87 := ⟨((m0 + 2 * j : Nat) : Int), ((m0 + 2 * j + 1 : Nat) : Int)⟩
theorem markN_run (n : Nat) (hn : n ≤ 140737480000000) (m0 : Nat) (hm0 : m0 ≤ 300000000) (d : Nat) : ∀ (k i : Nat) (x : List S87), i + d = n → x.length = n → (∀ j, j < i → x[j]? = some (mkN m0 j)) → d < k →
    laws_markNodeS.l0 k x ((m0 + 2 * i : Nat) : Int) (i : Int) = some (((m0 + 2 * n : Nat) : Int), (List.range n).map (mkN m0)) := by
  induction d with
  | zero =>
    intro k i x hi hl hj hk
    obtain ⟨k, rfl⟩ : ∃ m, k = m + 1 := ⟨k - 1, by omega⟩
    simp only [laws_markNodeS.l0]
    rw [if_neg (by omega)]
    have e : i = n := by omega
    subst e
    congr 2
    apply List.ext_getElem?
    intro j
    by_cases h : j < i
    · rw [hj j h, List.getElem?_map, List.getElem?_range h]; rfl
    · rw [List.getElem?_eq_none (by omega), List.getElem?_eq_none (by simp; omega)]
  | succ d ih =>
    intro k i x hi hl hj hk
    obtain ⟨k, rfl⟩ : ∃ m, k = m + 1 := ⟨k - 1, by omega⟩
    simp only [laws_markNodeS.l0, Option.bind_some]
    have e1 : wrap64 (((m0 + 2 * i : Nat) : Int) + 1) = ((m0 + 2 * i + 1 : Nat) : Int) := by unfold wrap64; omega
    have e2 : wrap64 (((m0 + 2 * i + 1 : Nat) : Int) + 1) = ((m0 + 2 * (i + 1) : Nat) : Int) := by unfold wrap64; omega
    have e3 : (rd_T87 (x.set i ⟨((m0 + 2 * i : Nat) : Int), (rd_T87 x (i : Int)).f1⟩) (i : Int)).f0 = ((m0 + 2 * i : Nat) : Int) := by
      rw [rdN_nat, List.getD_eq_getElem?_getD, List.getElem?_set_self (by omega)]
      rfl
    rw [if_pos (by omega), if_pos (by omega), Int.toNat_natCast, e1, e2, wn64s i (by omega), e3]
    refine ih k (i + 1) _ (by omega) (by simpa using hl) ?_ (by omega)
    intro j hji
    rw [List.getElem?_set]
    by_cases h : i = j
    · subst h
      rw [if_pos rfl, if_pos (by simp; omega)]
      rfl
    · rw [if_neg h, List.getElem?_set_ne h]
      exact hj j (by omega)
theorem markN_f (x : List S87) (hn : x.length ≤ 140737480000000) (k : Nat) (hk : x.length < k) : laws_markNodeS.f k x 1 = some (((1 + 2 * x.length : Nat) : Int), (List.range x.length).map (mkN 1)) :=
  markN_run x.length hn 1 (by omega) x.length k 0 x (by omega) rfl (fun j hj => by omega) hk
theorem markN_g (x : List S87) (hn : x.length ≤ 140737480000000) (m0 : Nat) (hm0 : m0 ≤ 300000000) (k : Nat) (hk : x.length < k) : laws_markNodeS.f k x (m0 : Int) = some (((m0 + 2 * x.length : Nat) : Int), (List.range x.length).map (mkN m0)) :=
  markN_run x.length hn m0 hm0 x.length k 0 x (by omega) rfl (fun j hj => by omega) hk

theorem heldN_run (n : Nat) (hn : n ≤ 140737480000000) (m0 : Nat) (hm0 : m0 ≤ 300000000) (d : Nat) : ∀ (k i : Nat), i + d = n → d < k →
    laws_heldNodeS.l0 k ((List.range n).map (mkN m0)) ((m0 + 2 * i : Nat) : Int) (i : Int) = some ((m0 + 2 * n : Nat) : Int) := by
  induction d with
  | zero =>
    intro k i hi hk
    obtain ⟨k, rfl⟩ : ∃ m, k = m + 1 := ⟨k - 1, by omega⟩
    simp only [laws_heldNodeS.l0]
    rw [if_neg (by simp; omega)]
    congr 2
    omega
  | succ d ih =>
    intro k i hi hk
    obtain ⟨k, rfl⟩ : ∃ m, k = m + 1 := ⟨k - 1, by omega⟩
    simp only [laws_heldNodeS.l0]
    have hr : rd_T87 ((List.range n).map (mkN m0)) (i : Int) = mkN m0 i := by
      rw [rdN_nat, List.getD_eq_getElem?_getD, List.getElem?_map, List.getElem?_range (by omega)]
      rfl
    have e1 : wrap64 (((m0 + 2 * i : Nat) : Int) + 1) = ((m0 + 2 * i + 1 : Nat) : Int) := by unfold wrap64; omega
    have e2 : wrap64 (((m0 + 2 * i + 1 : Nat) : Int) + 1) = ((m0 + 2 * (i + 1) : Nat) : Int) := by unfold wrap64; omega
    rw [if_pos (by simp; omega), if_pos (by omega), hr, e1, e2]
    rw [if_pos (show (mkN m0 i).f0 = ((m0 + 2 * i : Nat) : Int) from rfl), if_pos (show (mkN m0 i).f1 = ((m0 + 2 * i + 1 : Nat) : Int) from rfl), wn64s i (by omega)]
    exact ih k (i + 1) (by omega) (by omega)
theorem heldN_f (n : Nat) (hn : n ≤ 140737480000000) (k : Nat) (hk : n < k) : laws_heldNodeS.f k ((List.range n).map (mkN 1)) 1 = some ((1 + 2 * n : Nat) : Int) :=
  heldN_run n hn 1 (by omega) n k 0 (by omega) hk

theorem w64 (x : Int) (h0 : -9223372036854775808 ≤ x) (h1 : x ≤ 9223372036854775807) : wrap64 x = x := by unfold wrap64; omega
theorem w64s (i : Nat) (h : i ≤ 140737488355328) : wrap64 ((i : Int) + 1) = ((i + 1 : Nat) : Int) := by rw [w64 _ (by omega) (by omega)]; omega
theorem rd_nat (l : List Int) (i : Nat) : rd l (i : Int) = l.getD i 0 := by simp [rd]
theorem getD_lt (l : List Int) (i : Nat) (h : i < l.length) : l.getD i 0 = l[i] := by simp [List.getD_eq_getElem?_getD, h]

theorem laws_toIntS_run (x0 : List Int) (hn : x0.length ≤ 140737488351232) (d : Nat) : ∀ (k i : Nat) (x3 : List Int), i + d = x0.length → x3.length = x0.length → (∀ j, j < i → x3[j]? = x0[j]?) → d < k →
    laws_toIntS.l0 k x0 x3 (i : Int) = some x0 := by
  induction d with
  | zero =>
    intro k i x3 hi hl hj hk
    obtain ⟨k, rfl⟩ : ∃ m, k = m + 1 := ⟨k - 1, by omega⟩
    simp only [laws_toIntS.l0]
    rw [if_neg (by omega)]
    congr 1
    apply List.ext_getElem?
    intro j
    by_cases h : j < i
    · exact hj j h
    · rw [List.getElem?_eq_none (by omega), List.getElem?_eq_none (by omega)]
  | succ d ih =>
    intro k i x3 hi hl hj hk
    obtain ⟨k, rfl⟩ : ∃ m, k = m + 1 := ⟨k - 1, by omega⟩
    simp only [laws_toIntS.l0]
    rw [if_pos (by omega), if_pos (by omega), if_pos (by omega), w64s i (by omega)]
    refine ih k (i + 1) _ (by omega) (by simpa using hl) ?_ (by omega)
    intro j hji
    rw [Int.toNat_natCast, rd_nat, List.getElem?_set]
    by_cases h : i = j
    · subst h
      rw [if_pos rfl, if_pos (by omega), getD_lt _ _ (by omega), List.getElem?_eq_getElem (by omega)]
    · rw [if_neg h]
      exact hj j (by omega)
theorem laws_toIntS_f (l : List Int) (hn : l.length ≤ 1048576) (k : Nat) (hk : l.length < k) : laws_toIntS.f k l = some l := by
  unfold laws_toIntS.f
  rw [if_pos (by omega), if_pos (by omega)]
  exact laws_toIntS_run l (by omega) l.length k 0 _ (by omega) (by simp) (fun j hj => by omega) hk

theorem laws_eqIntS_run (x0 : List Int) (hn : x0.length ≤ 140737488351232) (d : Nat) : ∀ (k i : Nat), i + d = x0.length → d < k → laws_eqIntS.l0 k x0 x0 (i : Int) = some true := by
  induction d with
  | zero =>
    intro k i hi hk
    obtain ⟨k, rfl⟩ : ∃ m, k = m + 1 := ⟨k - 1, by omega⟩
    simp only [laws_eqIntS.l0]
    rw [if_neg (by omega)]
  | succ d ih =>
    intro k i hi hk
    obtain ⟨k, rfl⟩ : ∃ m, k = m + 1 := ⟨k - 1, by omega⟩
    simp only [laws_eqIntS.l0]
    rw [if_pos (by omega), if_pos (by omega), if_pos (by omega), if_pos trivial, w64s i (by omega)]
    exact ih k (i + 1) (by omega) (by omega)
theorem laws_eqIntS_f (l : List Int) (hn : l.length ≤ 140737488351232) (k : Nat) (hk : l.length < k) : laws_eqIntS.f k l l = some true := by
  unfold laws_eqIntS.f
  rw [if_pos rfl]
  exact laws_eqIntS_run l hn l.length k 0 (by omega) hk

def cvM (x : S100) : S101 := ⟨x.f0, x.f1⟩
theorem szI_f (l : List Int) (m : Int) (hm0 : 0 ≤ m) (hm : m ≤ 1048576) (hl : l.length ≤ 9223372036854775807) : laws_szIntS.f l m = some (if m - (l.length : Int) < 0 then -1 else m - (l.length : Int)) := by
  unfold laws_szIntS.f
  have e : wrap64 (m - (l.length : Int)) = m - (l.length : Int) := by unfold wrap64; omega
  rw [e]
  split <;> rfl
theorem rdM_nat (l : List S100) (i : Nat) (h : i < l.length) : rd_T100 l (i : Int) = l[i] := by unfold rd_T100; rw [Int.toNat_natCast, List.getD_eq_getElem?_getD, List.getElem?_eq_getElem h]; rfl
theorem rdI_nat (l : List S101) (i : Nat) (h : i < l.length) : rd_T101 l (i : Int) = l[i] := by unfold rd_T101; rw [Int.toNat_natCast, List.getD_eq_getElem?_getD, List.getElem?_eq_getElem h]; rfl
theorem szM_run (x0 : List S100) (hn : x0.length ≤ 1048576) (hin : ∀ x ∈ x0, x.f0.length ≤ 9223372036854775807) (d : Nat) : ∀ (k i : Nat) (m : Int), i + d = x0.length → d < k → 0 ≤ m → m ≤ 1048576 →
    ∃ t, laws_szMonoS.l0 k x0 m (i : Int) = some t ∧ (t < 0 ∨ (0 ≤ t ∧ t ≤ 1048576 ∧ ∀ j, i ≤ j → (h : j < x0.length) → x0[j].f0.length ≤ 1048576)) := by
  induction d with
  | zero =>
    intro k i m hi hk h0 h1
    obtain ⟨k, rfl⟩ : ∃ j, k = j + 1 := ⟨k - 1, by omega⟩
    simp only [laws_szMonoS.l0]
    rw [if_neg (by omega)]
    exact ⟨_, rfl, .inr ⟨h0, h1, fun j hj h => by omega⟩⟩
  | succ d ih =>
    intro k i m hi hk h0 h1
    obtain ⟨k, rfl⟩ : ∃ j, k = j + 1 := ⟨k - 1, by omega⟩
    have hil : i < x0.length := by omega
    have hx := hin _ (List.getElem_mem hil)
    simp only [laws_szMonoS.l0]
    rw [if_pos (by omega), if_pos (by omega), rdM_nat _ i hil]
    unfold laws_szMono.f
    rw [szI_f _ m h0 h1 hx, Option.bind_some]
    by_cases hneg : m - (x0[i].f0.length : Int) < 0
    · rw [if_pos hneg, if_pos (by omega), Option.bind_some, if_pos (by omega)]
      exact ⟨_, rfl, .inl (by omega)⟩
    · rw [if_neg hneg, if_neg (by omega), Option.bind_some, if_neg (by omega), w64s i (by omega)]
      obtain ⟨t, ht, hh⟩ := ih k (i + 1) (m - (x0[i].f0.length : Int)) (by omega) (by omega) (by omega) (by omega)
      refine ⟨t, ht, hh.imp id (fun h => ⟨h.1, h.2.1, fun j hj hjl => ?_⟩)⟩
      by_cases e : j = i
      · subst e; omega
      · exact h.2.2 j (by omega) hjl
theorem szM_f (l : List S100) (hl : l.length ≤ 9223372036854775807) (hin : ∀ x ∈ l, x.f0.length ≤ 9223372036854775807) (k : Nat) (hk : 1048576 < k) : ∃ t, laws_szMonoS.f k l 1048576 = some t ∧ (t < 0 ∨ (0 ≤ t ∧ t ≤ 1048576 ∧ l.length ≤ 1048576 ∧ ∀ x ∈ l, x.f0.length ≤ 1048576)) := by
  unfold laws_szMonoS.f
  have e : wrap64 (1048576 - (l.length : Int)) = 1048576 - (l.length : Int) := by unfold wrap64; omega
  rw [e]
  by_cases h : (1048576 : Int) - (l.length : Int) < 0
  · rw [if_pos h]; exact ⟨_, rfl, .inl (by omega)⟩
  · rw [if_neg h]
    obtain ⟨t, ht, hh⟩ := szM_run l (by omega) hin l.length k 0 (1048576 - (l.length : Int)) (by omega) (by omega) (by omega) (by omega)
    refine ⟨t, ht, hh.imp id (fun h => ⟨h.1, h.2.1, by omega, fun x hx => ?_⟩)⟩
    obtain ⟨j, hj, rfl⟩ := List.getElem_of_mem hx
    exact h.2.2 j (Nat.zero_le _) hj
theorem toM_run (x0 : List S100) (hn : x0.length ≤ 1048576) (hin : ∀ x ∈ x0, x.f0.length ≤ 1048576) (d : Nat) : ∀ (k i : Nat) (x3 : List S101), i + d = x0.length → x3.length = x0.length → (∀ j, j < i → x3[j]? = (x0.map cvM)[j]?) → d + 1048577 < k →
    laws_toMonoS.l0 k x0 x3 (i : Int) = some (x0.map cvM) := by
  induction d with
  | zero =>
    intro k i x3 hi hl hj hk
    obtain ⟨k, rfl⟩ : ∃ m, k = m + 1 := ⟨k - 1, by omega⟩
    simp only [laws_toMonoS.l0]
    rw [if_neg (by omega)]
    congr 1
    apply List.ext_getElem?
    intro j
    by_cases h : j < i
    · exact hj j h
    · rw [List.getElem?_eq_none (by omega), List.getElem?_eq_none (by rw [List.length_map]; omega)]
  | succ d ih =>
    intro k i x3 hi hl hj hk
    obtain ⟨k, rfl⟩ : ∃ m, k = m + 1 := ⟨k - 1, by omega⟩
    have hil : i < x0.length := by omega
    have hx := hin _ (List.getElem_mem hil)
    simp only [laws_toMonoS.l0]
    rw [if_pos (by omega), if_pos (by omega), rdM_nat _ i hil]
    unfold laws_toMono.f
    rw [laws_toIntS_f _ hx k (by omega), Option.bind_some, Option.bind_some, if_pos (by omega), w64s i (by omega)]
    refine ih k (i + 1) _ (by omega) (by simpa using hl) ?_ (by omega)
    intro j hji
    rw [Int.toNat_natCast, List.getElem?_set]
    by_cases h : i = j
    · subst h
      rw [if_pos rfl, if_pos (by omega), List.getElem?_map, List.getElem?_eq_getElem hil]
      rfl
    · rw [if_neg h]
      exact hj j (by omega)
theorem toM_f (l : List S100) (hn : l.length ≤ 1048576) (hin : ∀ x ∈ l, x.f0.length ≤ 1048576) (k : Nat) (hk : 2097160 < k) : laws_toMonoS.f k l = some (l.map cvM) := by
  unfold laws_toMonoS.f
  rw [if_pos (by omega), if_pos (by omega)]
  exact toM_run l hn hin l.length k 0 _ (by omega) (by simp) (fun j hj => by omega) (by omega)
theorem eqM_run (x0 : List S101) (hn : x0.length ≤ 1048576) (hin : ∀ x ∈ x0, x.f0.length ≤ 1048576) (d : Nat) : ∀ (k i : Nat), i + d = x0.length → d + 1048577 < k → laws_eqMonoS.l0 k x0 x0 (i : Int) = some true := by
  induction d with
  | zero =>
    intro k i hi hk
    obtain ⟨k, rfl⟩ : ∃ m, k = m + 1 := ⟨k - 1, by omega⟩
    simp only [laws_eqMonoS.l0]
    rw [if_neg (by omega)]
  | succ d ih =>
    intro k i hi hk
    obtain ⟨k, rfl⟩ : ∃ m, k = m + 1 := ⟨k - 1, by omega⟩
    have hil : i < x0.length := by omega
    have hx := hin _ (List.getElem_mem hil)
    simp only [laws_eqMonoS.l0]
    rw [if_pos (by omega), if_pos (by omega), if_pos (by omega), rdI_nat _ i hil]
    unfold laws_eqMono.f
    rw [laws_eqIntS_f _ (by omega) k (by omega), Option.bind_some, if_pos rfl, if_pos rfl, Option.bind_some, if_pos rfl, w64s i (by omega)]
    exact ih k (i + 1) (by omega) (by omega)
theorem eqM_f (l : List S101) (hn : l.length ≤ 1048576) (hin : ∀ x ∈ l, x.f0.length ≤ 1048576) (k : Nat) (hk : 2097160 < k) : laws_eqMonoS.f k l l = some true := by
  unfold laws_eqMonoS.f
  rw [if_pos rfl]
  exact eqM_run l hn hin l.length k 0 (by omega) (by omega)

/-- Two lists of powers in order. -/
def cmpL : List Int → List Int → Int
  | [], _ => 0
  | _, [] => 0
  | x :: xs, y :: ys => if x < y then -1 else if x > y then 1 else cmpL xs ys
theorem cmpL_neg : ∀ a b : List Int, a.length = b.length → cmpL b a = -cmpL a b := by
  intro a
  induction a with
  | nil => intro b h; cases b with | nil => rfl | cons => simp at h
  | cons x xs ih =>
    intro b h
    cases b with
    | nil => simp at h
    | cons y ys =>
      simp only [cmpL]
      by_cases h1 : x < y
      · have h2 : ¬ y < x := by omega
        simp [h1, h2]
      · by_cases h2 : y < x
        · simp [h1, h2]
        · simp [h1, h2, ih ys (by simpa using h)]
theorem drop_rd (l : List Int) (i : Nat) (h : i < l.length) : l.drop i = rd l (i : Int) :: l.drop (i + 1) := by
  rw [List.drop_eq_getElem_cons h]
  congr 1
  rw [rd_nat, getD_lt _ _ h]
theorem compare_run (a b : List Int) (hab : a.length = b.length) (hl : a.length ≤ 1048576) (d : Nat) : ∀ (k i : Nat), i + d = a.length → d < k → spec_l4Compare.l0 k a b (a.length : Int) (i : Int) = some (cmpL (a.drop i) (b.drop i)) := by
  induction d with
  | zero =>
    intro k i hi hk
    obtain ⟨k, rfl⟩ : ∃ m, k = m + 1 := ⟨k - 1, by omega⟩
    simp only [spec_l4Compare.l0]
    rw [if_neg (by omega), List.drop_of_length_le (by omega)]
    rfl
  | succ d ih =>
    intro k i hi hk
    obtain ⟨k, rfl⟩ : ∃ m, k = m + 1 := ⟨k - 1, by omega⟩
    simp only [spec_l4Compare.l0]
    rw [if_pos (by omega), if_pos (by omega), if_pos (by omega), if_pos (by omega), w64s i (by omega), ih k (i + 1) (by omega) (by omega), drop_rd a i (by omega), drop_rd b i (by omega)]
    simp only [cmpL]
    split
    · rfl
    · split <;> rfl
theorem compare_f (a b : List Int) (hab : a.length = b.length) (hl : a.length ≤ 1048576) (k : Nat) (hk : a.length < k) : spec_l4Compare.f k a b = some (cmpL a b) := by
  unfold spec_l4Compare.f
  have := compare_run a b hab hl a.length k 0 (by omega) hk
  rw [List.drop_zero, List.drop_zero] at this
  exact this
theorem cmpInt_f (a b : Int) : cmp_Compare_int.f a b = some (if a < b then -1 else if a > b then 1 else 0) := by
  unfold cmp_Compare_int.f cmp_isNaN_int.f
  rw [Option.bind_some, Option.bind_some, bne_self_eq_false, bne_self_eq_false, if_neg (by simp), if_neg (by simp)]
  split
  · rfl
  · split <;> rfl
theorem slicesCompare_run (a b : List Int) (hab : a.length = b.length) (hl : a.length ≤ 1048576) (d : Nat) : ∀ (k i : Nat), i + d = a.length → d < k → slices_Compare_int_int.l0 k a b a (a.length : Int) (i : Int) = some (cmpL (a.drop i) (b.drop i)) := by
  induction d with
  | zero =>
    intro k i hi hk
    obtain ⟨k, rfl⟩ : ∃ m, k = m + 1 := ⟨k - 1, by omega⟩
    simp only [slices_Compare_int_int.l0]
    rw [if_neg (by omega), if_neg (by omega), List.drop_of_length_le (by omega)]
    rfl
  | succ d ih =>
    intro k i hi hk
    obtain ⟨k, rfl⟩ : ∃ m, k = m + 1 := ⟨k - 1, by omega⟩
    simp only [slices_Compare_int_int.l0]
    rw [if_pos (by omega), if_pos (by omega), if_pos (by omega), if_neg (by omega), if_pos (by omega), cmpInt_f, Option.bind_some, w64s i (by omega), ih k (i + 1) (by omega) (by omega), drop_rd a i (by omega), drop_rd b i (by omega)]
    simp only [cmpL]
    by_cases h1 : rd a (i : Int) < rd b (i : Int)
    · rw [if_pos h1, if_neg (by omega), if_pos h1]
    · by_cases h2 : rd a (i : Int) > rd b (i : Int)
      · rw [if_neg h1, if_pos h2, if_neg (by omega), if_neg h1, if_pos h2]
      · rw [if_neg h1, if_neg h2, if_pos rfl, if_neg h1, if_neg h2]
theorem falling_f (a b : List Int) (x y : Int) (hab : a.length = b.length) (hl : a.length ≤ 1048576) (k : Nat) (hk : a.length < k) : impl_falling.f k a x b y = some (-cmpL a b) := by
  unfold impl_falling.f slices_Compare_int_int.f
  have := slicesCompare_run b a hab.symm (by omega) b.length k 0 (by omega) (by omega)
  rw [List.drop_zero, List.drop_zero] at this
  rw [show ((0 : Nat) : Int) = 0 from rfl] at this
  rw [this, Option.bind_some, cmpL_neg _ _ hab]
theorem all_run (l : List Int) (hl : l.length ≤ 1048576) (d : Nat) : ∀ (k i : Nat), i + d = l.length → d < k → spec_l1All.l0 k 0 9 l (l.length : Int) (i : Int) = some (!((l.drop i).any fun x => !decide (0 ≤ x ∧ x ≤ 9))) := by
  induction d with
  | zero =>
    intro k i hi hk
    obtain ⟨k, rfl⟩ : ∃ m, k = m + 1 := ⟨k - 1, by omega⟩
    simp only [spec_l1All.l0]
    rw [if_neg (by omega), List.drop_of_length_le (by omega)]
    rfl
  | succ d ih =>
    intro k i hi hk
    obtain ⟨k, rfl⟩ : ∃ m, k = m + 1 := ⟨k - 1, by omega⟩
    have e : spec_l1In.f (rd l (i : Int)) 0 9 = some (decide (0 ≤ rd l (i : Int) ∧ rd l (i : Int) ≤ 9)) := by
      unfold spec_l1In.f
      by_cases h : rd l (i : Int) ≥ 0
      · rw [if_pos h]; congr 1; rw [decide_eq_decide]; omega
      · rw [if_neg h, decide_eq_false (by omega)]
    simp only [spec_l1All.l0]
    rw [if_pos (by omega), if_pos (by omega), if_pos (by omega), e, Option.bind_some, w64s i (by omega), ih k (i + 1) (by omega) (by omega), drop_rd l i (by omega), List.any_cons]
    cases decide (0 ≤ rd l (i : Int) ∧ rd l (i : Int) ≤ 9) <;> simp
theorem powers_f (l : List Int) (k : Nat) (hk : 10 < k) : spec_l4Powers.f k l = some (powOK l) := by
  unfold spec_l4Powers.f powOK
  by_cases h : l.length = 4
  · have := all_run l (by omega) l.length k 0 (by omega) (by omega)
    rw [List.drop_zero] at this
    rw [if_pos (by omega), show spec_l1All.f k l 0 9 = spec_l1All.l0 k 0 9 l (l.length : Int) ((0 : Nat) : Int) from rfl, this, Option.bind_some, decide_eq_true h, Bool.true_and]
  · rw [if_neg (by omega), decide_eq_false h]; rfl
theorem powOK_len {l : List Int} (h : powOK l = true) : l.length = 4 := by
  unfold powOK at h
  rw [Bool.and_eq_true] at h
  exact of_decide_eq_true h.1
/-- The product at a place is good, and falls from the one before. -/
def okAt (l : List S101) (i : Nat) : Bool := powOK (l.getD i z101).f0 && (decide ((l.getD i z101).f1 ≠ 0) && (decide (i = 0) || decide (0 < cmpL (l.getD (i - 1) z101).f0 (l.getD i z101).f0)))
/-- The products from a place on are good. -/
def okFrom (l : List S101) : Nat → Nat → Bool
  | 0, _ => true
  | d + 1, i => okAt l i && okFrom l d (i + 1)
theorem rdI_getD (l : List S101) (i : Nat) : rd_T101 l (i : Int) = l.getD i z101 := by unfold rd_T101; rw [Int.toNat_natCast]
theorem specPoly_run (l : List S101) (hl : l.length ≤ 1048576) (d : Nat) : ∀ (k i : Nat), i + d = l.length → d + 20 < k → (0 < i → powOK (l.getD (i - 1) z101).f0 = true) → spec_GoodPoly.l0 k l l (l.length : Int) (i : Int) = some (okFrom l d i && decide ((l.length : Int) ≤ 40)) := by
  induction d with
  | zero =>
    intro k i hi hk hp
    obtain ⟨k, rfl⟩ : ∃ m, k = m + 1 := ⟨k - 1, by omega⟩
    simp only [spec_GoodPoly.l0, okFrom]
    rw [if_neg (by omega), Bool.true_and]
  | succ d ih =>
    intro k i hi hk hp
    obtain ⟨k, rfl⟩ : ∃ m, k = m + 1 := ⟨k - 1, by omega⟩
    simp only [spec_GoodPoly.l0, okFrom]
    rw [if_pos (by omega), if_pos (by omega), if_pos (by omega), rdI_getD, powers_f _ k (by omega), Option.bind_some, w64s i (by omega)]
    unfold okAt
    cases h1 : powOK (l.getD i z101).f0 with
    | false => rw [if_neg (by simp)]; rfl
    | true =>
      rw [if_pos rfl]
      by_cases h2 : (l.getD i z101).f1 = 0
      · rw [if_pos h2, decide_eq_false (by simpa using h2)]; rfl
      · have hi1 := ih k (i + 1) (by omega) (by omega) (fun _ => by rw [Nat.add_sub_cancel]; exact h1)
        rw [if_neg h2, decide_eq_true h2, hi1]
        by_cases h3 : i = 0
        · rw [if_neg (by omega), decide_eq_true h3]; rfl
        · have e : wrap64 ((i : Int) - 1) = ((i - 1 : Nat) : Int) := by unfold wrap64; omega
          have hl4 := powOK_len (hp (by omega))
          have hl5 := powOK_len h1
          rw [if_pos (by omega), e, if_pos (by omega), if_pos (by omega), rdI_getD, compare_f _ _ (by omega) (by omega) k (by omega), Option.bind_some, decide_eq_false h3]
          generalize cmpL (l.getD (i - 1) z101).f0 (l.getD i z101).f0 = c
          by_cases h4 : c ≤ 0
          · rw [if_pos h4, decide_eq_false (by omega : ¬ 0 < c)]; rfl
          · rw [if_neg h4, decide_eq_true (by omega : 0 < c)]; rfl
theorem implPoly_run (l : List S101) (hl : l.length ≤ 1048576) (d : Nat) : ∀ (k i : Nat), i + d = l.length → d + 20 < k → (0 < i → powOK (l.getD (i - 1) z101).f0 = true) → impl_GoodPoly.l0 k l l (l.length : Int) (i : Int) = some (okFrom l d i) := by
  induction d with
  | zero =>
    intro k i hi hk hp
    obtain ⟨k, rfl⟩ : ∃ m, k = m + 1 := ⟨k - 1, by omega⟩
    simp only [impl_GoodPoly.l0, okFrom]
    rw [if_neg (by omega)]
  | succ d ih =>
    intro k i hi hk hp
    obtain ⟨k, rfl⟩ : ∃ m, k = m + 1 := ⟨k - 1, by omega⟩
    simp only [impl_GoodPoly.l0, okFrom]
    rw [if_pos (by omega), if_pos (by omega), if_pos (by omega), rdI_getD, w64s i (by omega)]
    unfold okAt impl_monoOK.f
    rw [Option.bind_some]
    cases h1 : powOK (l.getD i z101).f0 with
    | false => rw [if_neg (by simp)]; rfl
    | true =>
      by_cases h2 : (l.getD i z101).f1 = 0
      · rw [decide_eq_false (by simpa using h2), if_neg (by simp)]; rfl
      · have hi1 := ih k (i + 1) (by omega) (by omega) (fun _ => by rw [Nat.add_sub_cancel]; exact h1)
        rw [decide_eq_true h2, if_pos (by rfl : (true && true) = true), hi1]
        by_cases h3 : i = 0
        · rw [if_neg (by omega), decide_eq_true h3]; rfl
        · have e : wrap64 ((i : Int) - 1) = ((i - 1 : Nat) : Int) := by unfold wrap64; omega
          have hl4 := powOK_len (hp (by omega))
          have hl5 := powOK_len h1
          rw [if_pos (by omega), e, if_pos (by omega), if_pos (by omega), rdI_getD, falling_f _ _ _ _ (by omega) (by omega) k (by omega), Option.bind_some, decide_eq_false h3]
          generalize cmpL (l.getD (i - 1) z101).f0 (l.getD i z101).f0 = c
          by_cases h4 : c ≤ 0
          · rw [if_pos (by omega), decide_eq_false (by omega : ¬ 0 < c)]; rfl
          · rw [if_neg (by omega), decide_eq_true (by omega : 0 < c)]; rfl
/-- A good sum of products. -/
def polyOK (l : List S101) : Bool := okFrom l l.length 0 && decide ((l.length : Int) ≤ 40)
theorem specPoly_f (l : List S101) (hl : l.length ≤ 1048576) (k : Nat) (hk : l.length + 20 < k) : spec_GoodPoly.f k l = some (polyOK l) :=
  specPoly_run l hl l.length k 0 (by omega) hk (fun h => absurd h (Nat.lt_irrefl 0))
theorem implPoly_f (l : List S101) (hl : l.length ≤ 1048576) (k : Nat) (hk : l.length + 20 < k) : impl_GoodPoly.f k l = some (polyOK l) := by
  unfold impl_GoodPoly.f polyOK
  by_cases h : (l.length : Int) > 40
  · rw [if_pos h, decide_eq_false (by omega), Bool.and_false]
  · rw [if_neg h, decide_eq_true (by omega), Bool.and_true]
    exact implPoly_run l hl l.length k 0 (by omega) hk (fun h => absurd h (Nat.lt_irrefl 0))

theorem okFrom_in (l : List S101) (d : Nat) : ∀ i, okFrom l d i = true → ∀ j, i ≤ j → j < i + d → powOK (l.getD j z101).f0 = true := by
  induction d with
  | zero => intro i _ j h1 h2; omega
  | succ d ih =>
    intro i h j h1 h2
    unfold okFrom at h
    rw [Bool.and_eq_true] at h
    by_cases e : j = i
    · subst e
      have := h.1
      unfold okAt at this
      rw [Bool.and_eq_true] at this
      exact this.1
    · exact ih (i + 1) h.2 j (by omega) (by omega)
theorem polyOK_in {l : List S101} (h : polyOK l = true) : l.length ≤ 40 ∧ ∀ i, i < l.length → powOK (l.getD i z101).f0 = true := by
  unfold polyOK at h
  rw [Bool.and_eq_true] at h
  have := of_decide_eq_true h.2
  exact ⟨by omega, fun i hi => okFrom_in l l.length 0 h.1 i (by omega) (by omega)⟩
theorem powOK_in {l : List Int} (h : powOK l = true) (j : Nat) (hj : j < 4) : 0 ≤ rd l (j : Int) ∧ rd l (j : Int) ≤ 9 := by
  have hl := powOK_len h
  unfold powOK at h
  rw [Bool.and_eq_true] at h
  have h2 : (l.any fun x => !decide (0 ≤ x ∧ x ≤ 9)) = false := by simpa using h.2
  rw [List.any_eq_false] at h2
  have := h2 (rd l (j : Int)) (by rw [rd_nat, getD_lt _ _ (by omega)]; exact List.getElem_mem _)
  have h3 : decide (0 ≤ rd l (j : Int) ∧ rd l (j : Int) ≤ 9) = true := by
    cases hb : decide (0 ≤ rd l (j : Int) ∧ rd l (j : Int) ≤ 9) with
    | true => rfl
    | false => rw [hb] at this; exact absurd rfl this
  exact of_decide_eq_true h3

theorem made_f (l : List S87) (h : l.length ≤ 2097152) (k : Nat) (hk : 1048600 < k) (hk2 : l.length + 1 < k) : spec_l2Made.f k l = some (goodF l) := by
  unfold spec_l2Made.f goodF
  by_cases hs : l.length ≤ 1048576
  · rw [specGood_f l hs k hk2, Option.bind_some]
    split <;> rfl
  · have e1 : spec_GoodTerm.f k l = some false := by
      unfold spec_GoodTerm.f spec_l1In.f
      rw [if_pos (by omega), Option.bind_some, decide_eq_false (by omega), if_neg (by simp)]
    have e2 : (Tree.treeOf (toP l)).isSome = false := by
      rw [treeOf_isSome, toP_len, decide_eq_false (by omega)]; rfl
    rw [e1, e2]
    rfl

/-- A variable times what there is, so often. -/
def vv (v : Int) : Nat → List S87
  | 0 => []
  | d + 1 => [⟨2, v⟩, ⟨6, 0⟩] ++ vv v d
theorem vv_len (v : Int) (d : Nat) : (vv v d).length = 2 * d := by
  induction d with
  | zero => rfl
  | succ d ih => rw [vv, List.length_append, ih]; simp only [List.length_cons, List.length_nil]; omega
/-- The powers of a product. -/
def powsN (ps : List Int) : Nat → Nat → List S87
  | 0, _ => []
  | d + 1, j => vv (j : Int) (rd ps (j : Int)).toNat ++ powsN ps d (j + 1)
theorem powsN_len (ps : List Int) (hp : powOK ps = true) (d : Nat) : ∀ j, j + d ≤ 4 → (powsN ps d j).length ≤ 18 * d := by
  induction d with
  | zero => intro j _; simp [powsN]
  | succ d ih =>
    intro j hj
    have h := powOK_in hp j (by omega)
    have := ih (j + 1) (by omega)
    rw [powsN, List.length_append, vv_len]
    omega
/-- The products as a term. -/
def termN (P : List S101) : Nat → Nat → List S87
  | 0, _ => []
  | d + 1, i => [⟨1, (P.getD i z101).f1⟩] ++ (powsN (P.getD i z101).f0 4 0 ++ ((if (i : Int) > 0 then [(⟨4, 0⟩ : S87)] else []) ++ termN P d (i + 1)))
/-- What TermOf answers. -/
def termF (P : List S101) : List S87 × Bool := if polyOK P = true then (if P.length = 0 then ([⟨1, 0⟩], true) else goodF (termN P P.length 0)) else ([], false)
theorem term_l2_spec (P : List S101) (n : Int) (i : Nat) (ps : List Int) (j : Nat) (hj : j ≤ 1048576) (m : Nat) (R : Option (List S87 × Bool)) (d : Nat) (hd : d ≤ 1000) : ∀ (k : Nat) (x : List S87), x.length + 2 * d ≤ 1000000 → m + d < k → (∀ k', m ≤ k' → spec_TermOf.l1 k' (x ++ vv (j : Int) d) (i : Int) P n (i : Int) ps (ps.length : Int) ((j + 1 : Nat) : Int) = R) →
    spec_TermOf.l2 k x (i : Int) (j : Int) (d : Int) P n (i : Int) ps (ps.length : Int) (j : Int) = R := by
  induction d with
  | zero =>
    intro k x hx hk hR
    obtain ⟨k, rfl⟩ : ∃ m, k = m + 1 := ⟨k - 1, by omega⟩
    simp only [spec_TermOf.l2]
    rw [if_neg (by omega), w64s j (by omega)]
    have := hR k (by omega)
    rw [vv, List.append_nil] at this
    exact this
  | succ d ih =>
    intro k x hx hk hR
    obtain ⟨k, rfl⟩ : ∃ m, k = m + 1 := ⟨k - 1, by omega⟩
    have e1 : wrap64 (((d + 1 : Nat) : Int) - 1) = (d : Int) := by unfold wrap64; omega
    simp only [spec_TermOf.l2, spec_l2Var.f, Option.bind_some]
    rw [if_pos (by omega), if_pos (by simp only [List.length_cons, List.length_nil]; omega), e1]
    refine ih (by omega) k _ (by rw [List.length_append]; simp only [List.length_cons, List.length_nil]; omega) (by omega) (fun k' hk' => ?_)
    have := hR k' hk'
    rw [vv] at this
    rw [List.append_assoc]
    exact this
theorem term_l1_spec (P : List S101) (n : Int) (i : Nat) (hi : i ≤ 1048576) (ps : List Int) (hp : powOK ps = true) (m : Nat) (R : Option (List S87 × Bool)) (d : Nat) : ∀ (k j : Nat) (x : List S87), j + d = 4 → x.length + 20 * d ≤ 900000 → m + 20 * d < k → (∀ k', m ≤ k' → spec_TermOf.l0 k' (x ++ powsN ps d j ++ (if (i : Int) > 0 then [(⟨4, 0⟩ : S87)] else [])) P n ((i + 1 : Nat) : Int) = R) →
    spec_TermOf.l1 k x (i : Int) P n (i : Int) ps (ps.length : Int) (j : Int) = R := by
  have hl := powOK_len hp
  induction d with
  | zero =>
    intro k j x hj hx hk hR
    obtain ⟨k, rfl⟩ : ∃ m, k = m + 1 := ⟨k - 1, by omega⟩
    have hR' := hR k (by omega)
    rw [powsN, List.append_nil] at hR'
    simp only [spec_TermOf.l1]
    rw [if_neg (by omega), w64s i (by omega)]
    by_cases h : (i : Int) > 0
    · rw [if_pos h] at hR' ⊢
      rw [if_pos (by omega)]
      exact hR'
    · rw [if_neg h, List.append_nil] at hR'
      rw [if_neg h]
      exact hR'
  | succ d ih =>
    intro k j x hj hx hk hR
    obtain ⟨k, rfl⟩ : ∃ m, k = m + 1 := ⟨k - 1, by omega⟩
    obtain ⟨h0, h9⟩ := powOK_in hp j (by omega)
    simp only [spec_TermOf.l1]
    rw [if_pos (by omega), if_pos (by omega), if_pos (by omega)]
    have hc := Int.toNat_of_nonneg h0
    have hR2 := hR
    rw [powsN] at hR2
    generalize rd ps (j : Int) = c at hc h0 h9 hR2 ⊢
    obtain ⟨c, rfl⟩ : ∃ c' : Nat, c = (c' : Int) := ⟨c.toNat, hc.symm⟩
    rw [Int.toNat_natCast] at hR2
    refine term_l2_spec P n i ps j (by omega) (m + 20 * d + 1) _ c (by omega) k x (by omega) (by omega) (fun k' hk' => ih k' (j + 1) _ (by omega) (by rw [List.length_append, vv_len]; omega) (by omega) (fun k'' hk'' => ?_))
    rw [List.append_assoc x]
    exact hR2 k'' hk''
theorem term_run_spec (P : List S101) (hP : P.length ≤ 40) (h0 : 0 < P.length) (hp : ∀ i, i < P.length → powOK (P.getD i z101).f0 = true) (d : Nat) : ∀ (k i : Nat) (x : List S87), i + d = P.length → x.length ≤ 100 * i → 100 * d + 1200000 < k →
    spec_TermOf.l0 k x P (P.length : Int) (i : Int) = some (goodF (x ++ termN P d i)) := by
  induction d with
  | zero =>
    intro k i x hi hx hk
    obtain ⟨k, rfl⟩ : ∃ m, k = m + 1 := ⟨k - 1, by omega⟩
    simp only [spec_TermOf.l0]
    rw [if_neg (by omega), made_f _ (by omega) k (by omega) (by omega), Option.bind_some, termN, List.append_nil]
  | succ d ih =>
    intro k i x hi hx hk
    obtain ⟨k, rfl⟩ : ∃ m, k = m + 1 := ⟨k - 1, by omega⟩
    simp only [spec_TermOf.l0, spec_l2Num.f, Option.bind_some]
    rw [if_pos (by omega), if_pos (by omega), if_pos (by omega), if_pos (by omega), rdI_getD]
    have hpi := hp i (by omega)
    have hpl := powsN_len _ hpi 4 0 (by omega)
    refine term_l1_spec P (P.length : Int) i (by omega) _ hpi (100 * d + 1200001) _ 4 k 0 _ rfl (by rw [List.length_append, List.length_singleton]; omega) (by omega) (fun k' hk' => ?_)
    have hlen : (x ++ [(⟨1, (P.getD i z101).f1⟩ : S87)] ++ powsN (P.getD i z101).f0 4 0 ++ (if (i : Int) > 0 then [(⟨4, 0⟩ : S87)] else [])).length ≤ 100 * (i + 1) := by
      have : (if (i : Int) > 0 then [(⟨4, 0⟩ : S87)] else []).length ≤ 1 := by split <;> simp
      rw [List.length_append, List.length_append, List.length_append, List.length_singleton]
      omega
    rw [ih k' (i + 1) _ (by omega) hlen (by omega), termN]
    simp only [List.append_assoc]
theorem term_l2_impl (P : List S101) (n : Int) (i : Nat) (ps : List Int) (j : Nat) (hj : j ≤ 1048576) (m : Nat) (R : Option (List S87 × Bool)) (N : Nat) (hN : N ≤ 1000) (d : Nat) (hd : d ≤ 1000) : ∀ (k c : Nat) (x : List S87), c + d = N → x.length + 2 * d ≤ 1000000 → m + d < k → (∀ k', m ≤ k' → impl_TermOf.l1 k' P (x ++ vv (j : Int) d) (i : Int) P n (i : Int) ps (ps.length : Int) ((j + 1 : Nat) : Int) = R) →
    impl_TermOf.l2 k P x (i : Int) (j : Int) P n (i : Int) ps (ps.length : Int) (j : Int) (N : Int) (c : Int) = R := by
  induction d with
  | zero =>
    intro k c x hc hx hk hR
    obtain ⟨k, rfl⟩ : ∃ m, k = m + 1 := ⟨k - 1, by omega⟩
    simp only [impl_TermOf.l2]
    rw [if_neg (by omega), w64s j (by omega)]
    have := hR k (by omega)
    rw [vv, List.append_nil] at this
    exact this
  | succ d ih =>
    intro k c x hc hx hk hR
    obtain ⟨k, rfl⟩ : ∃ m, k = m + 1 := ⟨k - 1, by omega⟩
    simp only [impl_TermOf.l2, Option.bind_some]
    rw [if_pos (by omega), if_pos (by simp only [List.length_cons, List.length_nil]; omega), w64s c (by omega)]
    refine ih (by omega) k (c + 1) _ (by omega) (by rw [List.length_append]; simp only [List.length_cons, List.length_nil]; omega) (by omega) (fun k' hk' => ?_)
    have := hR k' hk'
    rw [vv] at this
    rw [List.append_assoc]
    exact this
theorem term_l1_impl (P : List S101) (n : Int) (i : Nat) (hi : i ≤ 1048576) (ps : List Int) (hp : powOK ps = true) (m : Nat) (R : Option (List S87 × Bool)) (d : Nat) : ∀ (k j : Nat) (x : List S87), j + d = 4 → x.length + 20 * d ≤ 900000 → m + 20 * d < k → (∀ k', m ≤ k' → impl_TermOf.l0 k' P (x ++ powsN ps d j ++ (if (i : Int) > 0 then [(⟨4, 0⟩ : S87)] else [])) P n ((i + 1 : Nat) : Int) = R) →
    impl_TermOf.l1 k P x (i : Int) P n (i : Int) ps (ps.length : Int) (j : Int) = R := by
  have hl := powOK_len hp
  induction d with
  | zero =>
    intro k j x hj hx hk hR
    obtain ⟨k, rfl⟩ : ∃ m, k = m + 1 := ⟨k - 1, by omega⟩
    have hR' := hR k (by omega)
    rw [powsN, List.append_nil] at hR'
    simp only [impl_TermOf.l1]
    rw [if_neg (by omega), w64s i (by omega)]
    by_cases h : (i : Int) > 0
    · rw [if_pos h] at hR' ⊢
      rw [if_pos (by omega)]
      exact hR'
    · rw [if_neg h, List.append_nil] at hR'
      rw [if_neg h]
      exact hR'
  | succ d ih =>
    intro k j x hj hx hk hR
    obtain ⟨k, rfl⟩ : ∃ m, k = m + 1 := ⟨k - 1, by omega⟩
    obtain ⟨h0, h9⟩ := powOK_in hp j (by omega)
    simp only [impl_TermOf.l1]
    rw [if_pos (by omega), if_pos (by omega), if_pos (by omega)]
    have hc := Int.toNat_of_nonneg h0
    have hR2 := hR
    rw [powsN] at hR2
    generalize rd ps (j : Int) = c at hc h0 h9 hR2 ⊢
    obtain ⟨c, rfl⟩ : ∃ c' : Nat, c = (c' : Int) := ⟨c.toNat, hc.symm⟩
    rw [Int.toNat_natCast] at hR2
    refine term_l2_impl P n i ps j (by omega) (m + 20 * d + 1) _ c (by omega) c (by omega) k 0 x (by omega) (by omega) (by omega) (fun k' hk' => ih k' (j + 1) _ (by omega) (by rw [List.length_append, vv_len]; omega) (by omega) (fun k'' hk'' => ?_))
    rw [List.append_assoc x]
    exact hR2 k'' hk''
theorem term_run_impl (P : List S101) (hP : P.length ≤ 40) (h0 : 0 < P.length) (hp : ∀ i, i < P.length → powOK (P.getD i z101).f0 = true) (d : Nat) : ∀ (k i : Nat) (x : List S87), i + d = P.length → x.length ≤ 100 * i → 100 * d + 1200000 < k →
    impl_TermOf.l0 k P x P (P.length : Int) (i : Int) = some (goodF (x ++ termN P d i)) := by
  induction d with
  | zero =>
    intro k i x hi hx hk
    obtain ⟨k, rfl⟩ : ∃ m, k = m + 1 := ⟨k - 1, by omega⟩
    simp only [impl_TermOf.l0]
    rw [if_neg (by omega), if_neg (by omega), impl_goodList.f, Option.bind_some, termN, List.append_nil]
  | succ d ih =>
    intro k i x hi hx hk
    obtain ⟨k, rfl⟩ : ∃ m, k = m + 1 := ⟨k - 1, by omega⟩
    simp only [impl_TermOf.l0]
    rw [if_pos (by omega), if_pos (by omega), if_pos (by omega), if_pos (by omega), rdI_getD]
    have hpi := hp i (by omega)
    have hpl := powsN_len _ hpi 4 0 (by omega)
    refine term_l1_impl P (P.length : Int) i (by omega) _ hpi (100 * d + 1200001) _ 4 k 0 _ rfl (by rw [List.length_append, List.length_singleton]; omega) (by omega) (fun k' hk' => ?_)
    have hlen : (x ++ [(⟨1, (P.getD i z101).f1⟩ : S87)] ++ powsN (P.getD i z101).f0 4 0 ++ (if (i : Int) > 0 then [(⟨4, 0⟩ : S87)] else [])).length ≤ 100 * (i + 1) := by
      have : (if (i : Int) > 0 then [(⟨4, 0⟩ : S87)] else []).length ≤ 1 := by split <;> simp
      rw [List.length_append, List.length_append, List.length_append, List.length_singleton]
      omega
    rw [ih k' (i + 1) _ (by omega) hlen (by omega), termN]
    simp only [List.append_assoc]
theorem term_spec (P : List S101) (hP : P.length ≤ 1048576) (k : Nat) (hk : 3000000 ≤ k) : spec_TermOf.f k P = some (termF P) := by
  unfold spec_TermOf.f termF
  rw [specPoly_f P hP k (by omega), Option.bind_some]
  by_cases h1 : polyOK P = true
  · obtain ⟨hl, hp⟩ := polyOK_in h1
    rw [if_pos h1, if_pos h1]
    by_cases h2 : P.length = 0
    · rw [if_pos (by omega), if_pos h2]; rfl
    · rw [if_neg (by omega), if_neg h2]
      exact term_run_spec P hl (by omega) hp P.length k 0 [] (by omega) (by simp) (by omega)
  · rw [if_neg h1, if_neg h1]
theorem term_impl (P : List S101) (hP : P.length ≤ 1048576) (k : Nat) (hk : 3000000 ≤ k) : impl_TermOf.f k P = some (termF P) := by
  unfold impl_TermOf.f termF
  rw [implPoly_f P hP k (by omega), Option.bind_some]
  by_cases h1 : polyOK P = true
  · obtain ⟨hl, hp⟩ := polyOK_in h1
    rw [if_pos h1, if_pos h1]
    by_cases h2 : P.length = 0
    · obtain rfl := List.length_eq_zero_iff.1 h2
      obtain ⟨k, rfl⟩ : ∃ m, k = m + 1 := ⟨k - 1, by omega⟩
      have hg : goodF ([] ++ [(⟨1, 0⟩ : S87)]) = ([⟨1, 0⟩], true) := by rfl
      rw [if_pos h2]
      simp only [impl_TermOf.l0, impl_goodList.f]
      rw [if_neg (by simp), if_pos (by simp), if_pos (by simp), hg]
      rfl
    · rw [if_neg h2]
      exact term_run_impl P hl (by omega) hp P.length k 0 [] (by omega) (by simp) (by omega)
  · rw [if_neg h1, if_neg h1]
theorem termN_len (P : List S101) (hp : ∀ i, i < P.length → powOK (P.getD i z101).f0 = true) (d : Nat) : ∀ i, i + d = P.length → (termN P d i).length ≤ 100 * d := by
  induction d with
  | zero => intro i _; simp [termN]
  | succ d ih =>
    intro i hi
    have h1 := powsN_len _ (hp i (by omega)) 4 0 (by omega)
    have h2 := ih (i + 1) (by omega)
    have h3 : (if (i : Int) > 0 then [(⟨4, 0⟩ : S87)] else []).length ≤ 1 := by split <;> simp
    rw [termN, List.length_append, List.length_append, List.length_append, List.length_singleton]
    omega
theorem termF_len (P : List S101) : (termF P).1.length ≤ 4000 := by
  unfold termF
  split
  · rename_i h
    obtain ⟨hl, hp⟩ := polyOK_in h
    split
    · simp
    · have := termN_len P hp P.length 0 (by omega)
      unfold goodF
      split
      · show (termN P P.length 0).length ≤ 4000
        omega
      · simp
  · simp
theorem szM_sum (x0 : List S100) (hn : x0.length ≤ 1048576) (hin : ∀ x ∈ x0, x.f0.length ≤ 9223372036854775807) (d : Nat) : ∀ (k i : Nat) (m t : Int), i + d = x0.length → 0 ≤ m → m ≤ 1048576 → laws_szMonoS.l0 k x0 m (i : Int) = some t → 0 ≤ t →
    ((((x0.drop i).map fun x => x.f0.length + 1).sum : Nat) : Int) + t = m + d := by
  induction d with
  | zero =>
    intro k i m t hi h0 h1 h ht
    cases k with
    | zero => simp [laws_szMonoS.l0] at h
    | succ k =>
      simp only [laws_szMonoS.l0] at h
      rw [if_neg (by omega)] at h
      obtain rfl := Option.some.inj h
      rw [List.drop_of_length_le (by omega)]
      simp
  | succ d ih =>
    intro k i m t hi h0 h1 h ht
    cases k with
    | zero => simp [laws_szMonoS.l0] at h
    | succ k =>
      have hil : i < x0.length := by omega
      have hx := hin _ (List.getElem_mem hil)
      simp only [laws_szMonoS.l0] at h
      rw [if_pos (by omega), if_pos (by omega), rdM_nat _ i hil] at h
      unfold laws_szMono.f at h
      rw [szI_f _ m h0 h1 hx, Option.bind_some] at h
      by_cases hneg : m - (x0[i].f0.length : Int) < 0
      · rw [if_pos hneg, if_pos (by omega), Option.bind_some, if_pos (by omega)] at h
        have := Option.some.inj h
        omega
      · rw [if_neg hneg, if_neg (by omega), Option.bind_some, if_neg (by omega), w64s i (by omega)] at h
        have := ih k (i + 1) _ t (by omega) (by omega) (by omega) h ht
        rw [List.drop_eq_getElem_cons hil, List.map_cons, List.sum_cons]
        omega
theorem szM_small (l : List S100) (hl : l.length ≤ 9223372036854775807) (hin : ∀ x ∈ l, x.f0.length ≤ 9223372036854775807) (k : Nat) (t : Int) (h : laws_szMonoS.f k l 1048576 = some t) (ht : 0 ≤ t) : (l.map fun x => x.f0.length + 1).sum ≤ 1048576 := by
  unfold laws_szMonoS.f at h
  have e : wrap64 (1048576 - (l.length : Int)) = 1048576 - (l.length : Int) := by unfold wrap64; omega
  rw [e] at h
  by_cases hn : (1048576 : Int) - (l.length : Int) < 0
  · rw [if_pos hn] at h
    have := Option.some.inj h
    omega
  · rw [if_neg hn] at h
    have := szM_sum l (by omega) hin l.length k 0 _ t (by omega) (by omega) (by omega) h ht
    rw [List.drop_zero] at this
    omega
theorem FnExactTermOf : RdFnExactTermOf.Pure := by
  intro l hl hok
  refine ⟨100000000, ?_⟩
  unfold laws_FnExactTermOf.f
  obtain ⟨t, ht, hh⟩ := szM_f l hl (fun x hx => (hok.2 x hx).1.1) 100000000 (by omega)
  rw [ht, Option.bind_some]
  by_cases h : t < 0
  · rw [if_pos h]
  · obtain ⟨ht0, _, h1, h2⟩ := hh.resolve_left h
    have hlen : (l.map cvM).length = l.length := List.length_map _
    have hto := toM_f l h1 h2 100000000 (by omega)
    have hin : ∀ x ∈ l.map cvM, x.f0.length ≤ 1048576 := fun x hx => by
      obtain ⟨y, hy, rfl⟩ := List.mem_map.1 hx
      exact h2 y hy
    have hw : monoW (l.map cvM) ≤ 100000000 := by
      have := szM_small l hl (fun x hx => (hok.2 x hx).1.1) _ t ht ht0
      have e : monoW (l.map cvM) = (l.map fun x => x.f0.length + 1).sum := by
        unfold monoW
        rw [List.map_map]
        rfl
      omega
    have hs := term_spec (l.map cvM) (by omega) 100000000 (by omega)
    have hi := term_impl (l.map cvM) (by omega) 100000000 (by omega)
    have hq := eqM_f (l.map cvM) (by omega) hin 100000000 (by omega)
    have hpl := termF_len (l.map cvM)
    generalize l.map cvM = L at *
    generalize termF L = p at *
    have q0 := eqN_f p.1 (by omega) 100000000 (by omega)
    have m1 := markN_f p.1 (by omega) 100000000 (by omega)
    have d1 := heldN_f p.1.length (by omega) 100000000 (by omega)
    rw [if_neg h, hto, Option.bind_some]
    simp only [hs, hi, q0, hq, m1, d1, Option.bind_some]
    rw [if_pos (by refine ⟨⟨?_, ?_, ?_⟩, ?_, ?_, ?_, ?_⟩ <;> first | trivial | rfl | omega)]

end Go.Proofs.Ytlneknaiimmfmaa.Pure
