/- The program's SameRule and the reference's answer alike at every two rules; no condition. -/
import Derived.Test.YtkpnpclehnilfaaPFnExactSameRulex8
import Derived.Test.YtkpnpclehnilfaaRdFnExactSameRule
set_option linter.unusedVariables false
set_option linter.unusedSimpArgs false
namespace Go.Proofs.Ytkpnpclehnilfaa.Pure
open Go.RowKit Go.Proofs.Ytkpnpclehnilfaa.PFnExactSameRule Go.Proofs.YtkpnpclehnilfaaW.PrintWords Go.Proofs.YtkpnpclehnilfaaW.PrintLast Go.Proofs.YtkpnpclehnilfaaW.PrintMore

theorem wn64s (i : Nat) (h : i ≤ 140737488355328) : wrap64 ((i : Int) + 1) = ((i + 1 : Nat) : Int) := by unfold wrap64; omega
def cvN (x : S46) : S44 := ⟨x.f0, x.f1⟩
theorem rdN_nat (l : List S44) (i : Nat) : rd_T44 l (i : Int) = l.getD i z44 := by simp [rd_T44]
theorem szN_f (l : List S46) (m : Int) (hm0 : 0 ≤ m) (hm : m ≤ 1048576) (hl : l.length ≤ 9223372036854775807) : laws_szNodeS.f l m = some (if m - (l.length : Int) < 0 then -1 else m - (l.length : Int)) := by
  unfold laws_szNodeS.f
  have e : wrap64 (m - (l.length : Int)) = m - (l.length : Int) := by unfold wrap64; omega
  rw [e]
  split <;> rfl
theorem toN_run (x0 : List S46) (hn : x0.length ≤ 140737488351232) (d : Nat) : ∀ (k i : Nat) (x3 : List S44), i + d = x0.length → x3.length = x0.length → (∀ j, j < i → x3[j]? = (x0.map cvN)[j]?) → d < k →
    laws_toNodeS.l0 k x0 x3 (i : Int) = some (x0.map cvN) := by
  induction d with
  | zero =>
    intro k i x3 hi hl hj hk
    obtain ⟨k, rfl⟩ : ∃ m, k = m + 1 := ⟨k - 1, by omega⟩
    simp only [laws_toNodeS.l0]
    rw [if_neg (by omega)]
    congr 1
    apply List.ext_getElem?
    intro j
    by_cases h : j < i
    · exact hj j h
    · rw [List.getElem?_eq_none (by omega), List.getElem?_eq_none (by rw [List.length_map]; omega)]
  | succ d ih =>
    intro k i x3 hi hl hj hk
    obtain ⟨k, rfl⟩ : ∃ m, k = m + 1 := ⟨k - 1, by omega⟩
    simp only [laws_toNodeS.l0, laws_toNode.f, Option.bind_some]
    rw [if_pos (by omega), if_pos (by omega), if_pos (by omega), wn64s i (by omega)]
    refine ih k (i + 1) _ (by omega) (by simpa using hl) ?_ (by omega)
    intro j hji
    rw [Int.toNat_natCast, List.getElem?_set]
    by_cases h : i = j
    · subst h
      rw [if_pos rfl, if_pos (by omega), List.getElem?_map, List.getElem?_eq_getElem (by omega)]
      simp [rd_T46, cvN, List.getD_eq_getElem?_getD, List.getElem?_eq_getElem (show i < x0.length by omega)]
    · rw [if_neg h]
      exact hj j (by omega)
theorem toN_f (l : List S46) (hn : l.length ≤ 1048576) (k : Nat) (hk : l.length < k) : laws_toNodeS.f k l = some (l.map cvN) := by
  unfold laws_toNodeS.f
  rw [if_pos (by omega), if_pos (by omega)]
  exact toN_run l (by omega) l.length k 0 _ (by omega) (by simp) (fun j hj => by omega) hk
theorem eqN_run (x0 : List S44) (hn : x0.length ≤ 140737488351232) (d : Nat) : ∀ (k i : Nat), i + d = x0.length → d < k → laws_eqNodeS.l0 k x0 x0 (i : Int) = some true := by
  induction d with
  | zero =>
    intro k i hi hk
    obtain ⟨k, rfl⟩ : ∃ m, k = m + 1 := ⟨k - 1, by omega⟩
    simp only [laws_eqNodeS.l0]
    rw [if_neg (by omega)]
  | succ d ih =>
    intro k i hi hk
    obtain ⟨k, rfl⟩ : ∃ m, k = m + 1 := ⟨k - 1, by omega⟩
    simp only [laws_eqNodeS.l0, laws_eqNode.f]
    rw [if_pos (by omega), if_pos (by omega), if_pos (by omega), if_pos trivial, if_pos trivial, Option.bind_some, if_pos rfl, wn64s i (by omega)]
    exact ih k (i + 1) (by omega) (by omega)
theorem eqN_f (l : List S44) (hn : l.length ≤ 140737488351232) (k : Nat) (hk : l.length < k) : laws_eqNodeS.f k l l = some true := by
  unfold laws_eqNodeS.f
  rw [if_pos rfl]
  exact eqN_run l hn l.length k 0 (by omega) hk

theorem specArity_f (k : Nat) (hk : 0 < k) (op : Int) : spec_l1Arity.f k op = some (if 1 ≤ op ∧ op ≤ 11 then Tree.arity op else -1) := by
  obtain ⟨k, rfl⟩ : ∃ m, k = m + 1 := ⟨k - 1, by omega⟩
  unfold spec_l1Arity.f Tree.arity
  by_cases h1 : op = 1
  · subst h1; rfl
  · rw [if_neg h1]
    by_cases h2 : op = 2
    · subst h2; rfl
    · rw [if_neg (by omega : ¬ (op = 1 ∨ op = 2))]
      simp only [spec_l1Arity.j0]
      rw [if_neg (by simpa using h2)]
      by_cases h3 : op = 3
      · subst h3; rfl
      · rw [if_neg h3, if_neg h3]
        by_cases h4 : op = 11
        · subst h4; rfl
        · rw [if_neg h4, if_neg h4]
          unfold spec_l1In.f
          by_cases h5 : op ≥ 4
          · by_cases h6 : op ≤ 10
            · rw [if_pos h5, Option.bind_some, decide_eq_true h6, if_pos rfl, if_pos (by omega)]
            · rw [if_pos h5, Option.bind_some, decide_eq_false h6, if_neg (by simp), if_neg (by omega)]
          · rw [if_neg h5, Option.bind_some, if_neg (by simp), if_neg (by omega)]
/-- How many trees a list of nodes leaves. -/
def goodB (r : Option (List Tree.Tr × List Tree.Tr)) : Bool := match r with | some s => s.1.length == 1 | none => false
theorem specGood_run (t : List S44) (hn : t.length ≤ 1048576) (d : Nat) : ∀ (k i : Nat) (s : List Tree.Tr × List Tree.Tr), i + d = t.length → Tree.build (toP (t.take i)) ([], []) = some s → d + 1 < k →
    spec_GoodTerm.l0 k (s.1.length : Int) t (t.length : Int) (i : Int) = some (goodB (Tree.build (toP t) ([], []))) := by
  induction d with
  | zero =>
    intro k i s hi hs hk
    obtain ⟨k, rfl⟩ : ∃ m, k = m + 1 := ⟨k - 1, by omega⟩
    simp only [spec_GoodTerm.l0]
    have e : t.take i = t := List.take_of_length_le (by omega)
    rw [e] at hs
    rw [if_neg (by omega), hs]
    show some ((s.1.length : Int) == 1) = some (s.1.length == 1)
    congr 1
    rw [Bool.eq_iff_iff]; simp; omega
  | succ d ih =>
    intro k i s hi hs hk
    obtain ⟨k, rfl⟩ : ∃ m, k = m + 1 := ⟨k - 1, by omega⟩
    simp only [spec_GoodTerm.l0]
    rw [if_pos (by omega), if_pos (by omega), if_pos (by omega), specArity_f k (by omega), Option.bind_some, wn64s i (by omega), rdN_nat]
    have hlen := (Tree.build_len _ _ _ hs).1
    rw [toP_len, List.length_take] at hlen
    have hl2 : s.1.length ≤ t.length := by simp at hlen; omega
    have hsucc := build_succ t i (by omega) hs
    have hfail := build_fail t i (by omega) hs
    generalize t.getD i z44 = x at hsucc hfail ⊢
    obtain ⟨op, n⟩ := x
    simp only at hsucc hfail ⊢
    have hr := Tree.arity_range op
    have hbad : (Tree.numOK op n = true ∧ Tree.arity op ≤ (s.1.length : Int)) → False → True := fun _ _ => trivial
    by_cases hst : Tree.numOK op n = true ∧ Tree.arity op ≤ (s.1.length : Int)
    · have hstep : Tree.step s (op, n) = some (s.1.take (s.1.length - (Tree.arity op).toNat) ++ [.mk op n (s.1.drop (s.1.length - (Tree.arity op).toNat))], s.2 ++ [.mk op n (s.1.drop (s.1.length - (Tree.arity op).toNat))]) := if_pos hst
      rw [hstep] at hsucc
      have hgo := ih k (i + 1) _ (by omega) hsucc (by omega)
      have hlen' : (((s.1.take (s.1.length - (Tree.arity op).toNat) ++ [Tree.Tr.mk op n (s.1.drop (s.1.length - (Tree.arity op).toNat))]).length : Nat) : Int) = wrap64 ((s.1.length : Int) + wrap64 (1 - Tree.arity op)) := by
        rw [List.length_append, List.length_take, List.length_singleton]
        unfold wrap64
        omega
      simp only [hlen'] at hgo
      obtain ⟨hN, hA⟩ := hst
      unfold Tree.numOK at hN
      have hop : 1 ≤ op ∧ op ≤ 11 := by
        by_cases h1 : op = 1
        · omega
        · rw [if_neg h1] at hN
          by_cases h2 : op = 2
          · omega
          · rw [if_neg h2] at hN
            have := of_decide_eq_true hN
            omega
      rw [if_pos hop, if_neg (by omega), if_neg (by omega)]
      by_cases h2 : op = 2
      · subst h2
        rw [if_neg (by omega), if_pos rfl] at hN
        have hN := of_decide_eq_true hN
        rw [if_pos rfl, if_neg (by omega), if_neg (by omega), if_neg (by decide)]
        exact hgo
      · rw [if_neg h2]
        by_cases h1 : op = 1
        · subst h1
          rw [if_neg (by decide)]
          exact hgo
        · rw [if_neg h1, if_neg h2] at hN
          have hN := of_decide_eq_true hN
          have hpos : Tree.arity op > 0 := by
            unfold Tree.arity
            rw [if_neg (by omega)]
            split
            · omega
            · split <;> omega
          rw [if_pos hpos, if_pos hN.2.2]
          exact hgo
    · rw [hfail (if_neg hst)]
      show _ = some false
      by_cases hop : 1 ≤ op ∧ op ≤ 11
      · rw [if_pos hop, if_neg (by omega)]
        by_cases ha : (s.1.length : Int) < Tree.arity op
        · rw [if_pos ha]
        · rw [if_neg ha]
          have hN : ¬ Tree.numOK op n = true := fun h => hst ⟨h, by omega⟩
          unfold Tree.numOK at hN
          by_cases h2 : op = 2
          · subst h2
            rw [if_neg (by omega), if_pos rfl] at hN
            have hN : ¬ (0 ≤ n ∧ n < 4) := fun h => hN (decide_eq_true h)
            rw [if_pos rfl]
            by_cases hn0 : n < 0
            · rw [if_pos hn0]
            · rw [if_neg hn0, if_pos (by omega)]
          · rw [if_neg h2]
            by_cases h1 : op = 1
            · exact absurd (if_pos h1) hN
            · rw [if_neg h1, if_neg h2] at hN
              have hN : ¬ (1 ≤ op ∧ op ≤ 11 ∧ n = 0) := fun h => hN (decide_eq_true h)
              have hpos : Tree.arity op > 0 := by
                unfold Tree.arity
                rw [if_neg (by omega)]
                split
                · omega
                · split <;> omega
              rw [if_pos hpos, if_neg (by omega)]
      · rw [if_neg hop, if_pos (by omega)]
theorem treeOf_isSome (t : List (Int × Int)) : (Tree.treeOf t).isSome = (decide (1 ≤ t.length ∧ t.length ≤ 40) && goodB (Tree.build t ([], []))) := by
  unfold Tree.treeOf Tree.treesOf
  by_cases h : 1 ≤ t.length ∧ t.length ≤ 40
  · rw [if_pos h, decide_eq_true h, Bool.true_and]
    cases hb : Tree.build t ([], []) with
    | none => rfl
    | some s =>
      show (Option.bind (if s.1.length = 1 then some s.2 else none) List.getLast?).isSome = (s.1.length == 1)
      by_cases h1 : s.1.length = 1
      · have hl := (Tree.build_len _ _ _ hb).2
        rw [if_pos h1, Option.bind_some, h1]
        cases hs : s.2 with
        | nil => rw [hs] at hl; simp at hl; omega
        | cons a l => rw [List.getLast?_cons]; rfl
      · rw [if_neg h1]
        simp [h1]
  · rw [if_neg h, decide_eq_false h]; rfl
theorem specGood_f (t : List S44) (hn : t.length ≤ 1048576) (k : Nat) (hk : t.length + 1 < k) : spec_GoodTerm.f k t = some (Tree.treeOf (toP t)).isSome := by
  unfold spec_GoodTerm.f spec_l1In.f
  rw [treeOf_isSome, toP_len]
  by_cases h0 : 1 ≤ t.length
  · rw [if_pos (by omega), Option.bind_some]
    by_cases h1 : t.length ≤ 40
    · rw [decide_eq_true (by omega), if_pos rfl, decide_eq_true (⟨h0, h1⟩ : 1 ≤ t.length ∧ t.length ≤ 40), Bool.true_and]
      exact specGood_run t hn t.length k 0 ([], []) (by omega) rfl hk
    · rw [decide_eq_false (by omega), if_neg (by simp), decide_eq_false (by omega)]; rfl
  · rw [if_neg (by omega), Option.bind_some, if_neg (by simp), decide_eq_false (by omega)]; rfl

theorem specPat_f (t : List S44) (hn : t.length ≤ 1048576) (k : Nat) (hk : t.length + 1 < k) : spec_GoodPattern.f k t = impl_GoodPattern.f t := by
  unfold spec_GoodPattern.f impl_GoodPattern.f patTree
  rw [specGood_f t hn k hk, Option.bind_some]
  by_cases h : t.length ≤ 7
  · rw [if_pos h, decide_eq_true (by omega)]
    cases (Tree.treeOf (toP t)).isSome <;> rfl
  · rw [if_neg h, decide_eq_false (by omega)]
    cases (Tree.treeOf (toP t)).isSome <;> rfl

theorem szR_f (l m : List S46) (hl : l.length ≤ 9223372036854775807) (hm : m.length ≤ 9223372036854775807) : ∃ t, laws_szRule.f l m 1048576 = some t ∧ (t < 0 ∨ (l.length ≤ 1048576 ∧ m.length ≤ 1048576)) := by
  unfold laws_szRule.f
  rw [szN_f l 1048576 (by omega) (by omega) hl, Option.bind_some]
  by_cases h : (1048576 : Int) - (l.length : Int) < 0
  · rw [if_pos h, if_pos (by omega)]
    exact ⟨_, rfl, .inl (by omega)⟩
  · rw [if_neg h, if_neg h, szN_f m _ (by omega) (by omega) hm, Option.bind_some]
    by_cases h' : (1048576 : Int) - (l.length : Int) - (m.length : Int) < 0
    · rw [if_pos h', if_pos (by omega)]
      exact ⟨_, rfl, .inl (by omega)⟩
    · rw [if_neg h', if_neg h']
      exact ⟨_, rfl, .inr (by omega)⟩
theorem toR_f (l m : List S46) (hl : l.length ≤ 1048576) (hm : m.length ≤ 1048576) (k : Nat) (hk : l.length < k) (hk' : m.length < k) : laws_toRule.f k l m = some (l.map cvN, m.map cvN) := by
  unfold laws_toRule.f
  rw [toN_f l hl k hk, Option.bind_some, toN_f m hm k hk']
  rfl
theorem eqR_f (l m : List S44) (hl : l.length ≤ 140737488351232) (hm : m.length ≤ 140737488351232) (k : Nat) (hk : l.length < k) (hk' : m.length < k) : laws_eqRule.f k l m l m = some true := by
  unfold laws_eqRule.f
  rw [eqN_f l hl k hk, Option.bind_some, if_pos rfl, eqN_f m hm k hk']
  rfl

theorem w64 (x : Int) (h0 : -9223372036854775808 ≤ x) (h1 : x ≤ 9223372036854775807) : wrap64 x = x := by unfold wrap64; omega
theorem w64s (i : Nat) (h : i ≤ 140737488355328) : wrap64 ((i : Int) + 1) = ((i + 1 : Nat) : Int) := by rw [w64 _ (by omega) (by omega)]; omega
theorem rd_nat (l : List Int) (i : Nat) : rd l (i : Int) = l.getD i 0 := by simp [rd]
theorem getD_lt (l : List Int) (i : Nat) (h : i < l.length) : l.getD i 0 = l[i] := by simp [List.getD_eq_getElem?_getD, h]

theorem hasRun (v : Int) (l : List Int) (hl : l.length ≤ 1048576) (d : Nat) : ∀ (k i : Nat), i + d = l.length → d < k → spec_l1Has.l0 k v l (l.length : Int) (i : Int) = some ((l.drop i).contains v) := by
  induction d with
  | zero =>
    intro k i hi hk
    obtain ⟨k, rfl⟩ : ∃ m, k = m + 1 := ⟨k - 1, by omega⟩
    simp only [spec_l1Has.l0]
    rw [if_neg (by omega), List.drop_of_length_le (by omega)]
    rfl
  | succ d ih =>
    intro k i hi hk
    obtain ⟨k, rfl⟩ : ∃ m, k = m + 1 := ⟨k - 1, by omega⟩
    have hil : i < l.length := by omega
    simp only [spec_l1Has.l0]
    rw [if_pos (by omega), if_pos (by omega), if_pos (by omega), w64s i (by omega), rd_nat, getD_lt l i hil, List.drop_eq_getElem_cons hil, List.contains_cons]
    by_cases h : l[i] = v
    · rw [if_pos h, beq_iff_eq.2 h.symm, Bool.true_or]
    · rw [if_neg h, beq_eq_false_iff_ne.2 (fun e => h e.symm), Bool.false_or]
      exact ih k (i + 1) (by omega) (by omega)
theorem has_f (l : List Int) (v : Int) (hl : l.length ≤ 1048576) (k : Nat) (hk : l.length < k) : spec_l1Has.f k l v = some (l.contains v) := by
  unfold spec_l1Has.f
  exact hasRun v l hl l.length k 0 (by omega) hk
/-- All namings that begin with one. -/
def permsL : Nat → List Int → List (List Int)
  | 0, l => [l]
  | d + 1, l => (List.range' 0 4).flatMap fun (v : Nat) => if l.contains (v : Int) = true then [] else permsL d (l ++ [(v : Int)])
theorem permsL_any (P : List Int → Bool) (d : Nat) : ∀ l, anyN P d l = (permsL d l).any P := by
  induction d with
  | zero => intro l; simp [anyN, permsL]
  | succ d ih =>
    intro l
    simp only [anyN, permsL]
    rw [List.any_flatMap, List.range_eq_range']
    congr 1
    funext v
    cases h : l.contains (v : Int) with
    | true => simp
    | false => simp only [Bool.not_false, Bool.true_and, Bool.false_eq_true, if_false]; exact ih _
theorem permsL_mem (d : Nat) : ∀ l, ∀ x ∈ permsL d l, x.length = l.length + d := by
  induction d with
  | zero => intro l x h; simp only [permsL, List.mem_singleton] at h; subst h; rfl
  | succ d ih =>
    intro l x h
    simp only [permsL, List.mem_flatMap] at h
    obtain ⟨v, -, h⟩ := h
    split at h
    · exact absurd h (by simp)
    · have := ih _ x h
      simp at this
      omega
theorem permsL_len (d : Nat) : ∀ l, (permsL d l).length ≤ 4 ^ d := by
  induction d with
  | zero => intro l; simp [permsL]
  | succ d ih =>
    intro l
    have hb : ∀ v : Nat, (if l.contains (v : Int) = true then ([] : List (List Int)) else permsL d (l ++ [(v : Int)])).length ≤ 4 ^ d := by
      intro v
      split
      · simp
      · exact ih _
    have h0 := hb 0
    have h1 := hb 1
    have h2 := hb 2
    have h3 := hb 3
    have e : permsL (d + 1) l = (List.range' 0 4).flatMap fun (v : Nat) => if l.contains (v : Int) = true then [] else permsL d (l ++ [(v : Int)]) := rfl
    rw [e, show List.range' 0 4 = [0, 1, 2, 3] from rfl]
    simp only [List.flatMap_cons, List.flatMap_nil, List.length_append, List.length_nil]
    have e4 : 4 ^ (d + 1) = 4 * 4 ^ d := by rw [Nat.pow_succ]; omega
    omega
theorem own_f (l : List Int) (hl : l.length ≤ 1048576) : spec_l1Own.f l = some l := by
  unfold spec_l1Own.f
  rw [Option.bind_some, if_pos (by simp; omega), List.nil_append]
theorem perms_f (d : Nat) : ∀ (k : Nat) (l : List Int), l.length + d = 4 → 10 * d + 10 ≤ k → spec_l8Perms.f k l = some (permsL d l) := by
  induction d with
  | zero =>
    intro k l hl hk
    obtain ⟨k, rfl⟩ : ∃ m, k = m + 1 := ⟨k - 1, by omega⟩
    simp only [spec_l8Perms.f]
    rw [if_pos (by omega)]
    rfl
  | succ d ih =>
    intro k l hl hk
    obtain ⟨k, rfl⟩ : ∃ m, k = m + 1 := ⟨k - 1, by omega⟩
    simp only [spec_l8Perms.f]
    rw [if_neg (by omega)]
    have hd : d ≤ 3 := by omega
    have hp : (4 : Nat) ^ d ≤ 4 ^ 3 := Nat.pow_le_pow_right (by omega) hd
    have hrun : ∀ (e : Nat) (k i : Nat) (acc : List (List Int)), i + e = 4 → e + 10 * d + 12 ≤ k → acc.length ≤ i * 4 ^ d → spec_l8Perms.l0 k l acc (i : Int) = some (acc ++ (List.range' i e).flatMap fun (v : Nat) => if l.contains (v : Int) = true then [] else permsL d (l ++ [(v : Int)])) := by
      intro e
      induction e with
      | zero =>
        intro k i acc hi hk ha
        obtain ⟨k, rfl⟩ : ∃ m, k = m + 1 := ⟨k - 1, by omega⟩
        simp only [spec_l8Perms.l0]
        rw [if_neg (by omega)]
        simp
      | succ e ih2 =>
        intro k i acc hi hk ha
        obtain ⟨k, rfl⟩ : ∃ m, k = m + 1 := ⟨k - 1, by omega⟩
        simp only [spec_l8Perms.l0]
        rw [if_pos (by omega), has_f l _ (by omega) k (by omega), Option.bind_some, w64s i (by omega), List.range'_succ, List.flatMap_cons]
        have him : i * 4 ^ d ≤ 3 * 4 ^ 3 := Nat.mul_le_mul (by omega) hp
        have hsi : (i + 1) * 4 ^ d = i * 4 ^ d + 4 ^ d := by rw [Nat.add_mul, Nat.one_mul]
        cases hc : l.contains (i : Int) with
        | true =>
          rw [if_pos rfl, if_pos rfl, List.nil_append]
          exact ih2 k (i + 1) acc (by omega) (by omega) (Nat.le_trans ha (Nat.mul_le_mul_right _ (Nat.le_succ i)))
        | false =>
          have hpl := permsL_len d (l ++ [(i : Int)])
          rw [if_neg (by simp), if_neg (by simp), own_f l (by omega), Option.bind_some, if_pos (by omega), ih k (l ++ [(i : Int)]) (by simp; omega) (by omega), Option.bind_some, if_pos (by omega), ← List.append_assoc]
          exact ih2 k (i + 1) _ (by omega) (by omega) (by rw [List.length_append, hsi]; omega)
    have h := hrun 4 k 0 [] rfl (by omega) (by simp)
    rw [List.nil_append] at h
    exact h
theorem same_run (a b : List S44) (hab : a.length = b.length) (hl : a.length ≤ 1048576) (d : Nat) : ∀ (k i : Nat), i + d = a.length → d < k → spec_l8SameTerm.l0 k a b (a.length : Int) (i : Int) = some (sameN (a.drop i) (b.drop i)) := by
  induction d with
  | zero =>
    intro k i hi hk
    obtain ⟨k, rfl⟩ : ∃ m, k = m + 1 := ⟨k - 1, by omega⟩
    simp only [spec_l8SameTerm.l0]
    rw [if_neg (by omega), List.drop_of_length_le (by omega), List.drop_of_length_le (by omega)]
    rfl
  | succ d ih =>
    intro k i hi hk
    obtain ⟨k, rfl⟩ : ∃ m, k = m + 1 := ⟨k - 1, by omega⟩
    have ha : i < a.length := by omega
    have hb : i < b.length := by omega
    have ea : rd_T44 a (i : Int) = a[i] := by unfold rd_T44; rw [Int.toNat_natCast, List.getD_eq_getElem?_getD, List.getElem?_eq_getElem ha]; rfl
    have eb : rd_T44 b (i : Int) = b[i] := by unfold rd_T44; rw [Int.toNat_natCast, List.getD_eq_getElem?_getD, List.getElem?_eq_getElem hb]; rfl
    simp only [spec_l8SameTerm.l0]
    rw [if_pos (by omega), if_pos (by omega), if_pos (by omega), if_pos (by omega), ea, eb, w64s i (by omega), ih k (i + 1) (by omega) (by omega), List.drop_eq_getElem_cons ha, List.drop_eq_getElem_cons hb]
    simp only [sameN]
    cases (a[i].f0 == b[i].f0) <;> cases (a[i].f1 == b[i].f1) <;> rfl
theorem same_f (a b : List S44) (hl : a.length ≤ 1048576) (k : Nat) (hk : a.length < k) : spec_l8SameTerm.f k a b = some (sameN a b) := by
  unfold spec_l8SameTerm.f
  by_cases h : a.length = b.length
  · rw [if_pos (by omega)]
    exact same_run a b h hl a.length _ 0 (by omega) hk
  · rw [if_neg (by omega), sameN_len a b h]
theorem named_run (names : List Int) (h4 : names.length = 4) (l : List S44) (hl : l.length ≤ 1048576) (hv : varsOK l = true) (d : Nat) : ∀ (k i : Nat) (x : List S44), i + d = l.length → x.length = l.length → (∀ j, j < i → x[j]? = (l.map (nameN names))[j]?) → (∀ j, i ≤ j → x[j]? = l[j]?) → d < k →
    spec_l8Named.l0 k names x (l.length : Int) (i : Int) = some (l.map (nameN names)) := by
  induction d with
  | zero =>
    intro k i x hi hx h1 h2 hk
    obtain ⟨k, rfl⟩ : ∃ m, k = m + 1 := ⟨k - 1, by omega⟩
    simp only [spec_l8Named.l0]
    rw [if_neg (by omega)]
    congr 1
    apply List.ext_getElem?
    intro j
    by_cases h : j < i
    · exact h1 j h
    · rw [List.getElem?_eq_none (by omega), List.getElem?_eq_none (by rw [List.length_map]; omega)]
  | succ d ih =>
    intro k i x hi hx h1 h2 hk
    obtain ⟨k, rfl⟩ : ∃ m, k = m + 1 := ⟨k - 1, by omega⟩
    have hil : i < l.length := by omega
    have e : rd_T44 x (i : Int) = l[i] := by unfold rd_T44; rw [Int.toNat_natCast, List.getD_eq_getElem?_getD, h2 i (Nat.le_refl _), List.getElem?_eq_getElem hil]; rfl
    have hvi : l[i].f0 = 2 → 0 ≤ l[i].f1 ∧ l[i].f1 < 4 := of_decide_eq_true (List.all_eq_true.1 hv _ (List.getElem_mem hil))
    have hnm : (l.map (nameN names))[i]? = some (nameN names l[i]) := by rw [List.getElem?_map, List.getElem?_eq_getElem hil]; rfl
    simp only [spec_l8Named.l0]
    rw [if_pos (by omega), if_pos (by omega), if_pos (by omega), e, w64s i (by omega)]
    by_cases hc : l[i].f0 = 2
    · rw [if_pos hc, if_pos (hvi hc).1, if_pos (by have := (hvi hc).2; omega)]
      refine ih k (i + 1) _ (by omega) (by simpa using hx) (fun j hj => ?_) (fun j hj => ?_) (by omega)
      · rw [Int.toNat_natCast, List.getElem?_set]
        by_cases h : i = j
        · subst h
          rw [if_pos rfl, if_pos (by omega), hnm]
          unfold nameN
          rw [if_pos hc]
        · rw [if_neg h]
          exact h1 j (by omega)
      · rw [Int.toNat_natCast, List.getElem?_set_ne (by omega)]
        exact h2 j (by omega)
    · rw [if_neg hc]
      refine ih k (i + 1) _ (by omega) hx (fun j hj => ?_) (fun j hj => h2 j (by omega)) (by omega)
      by_cases h : i = j
      · subst h
        rw [h2 i (Nat.le_refl _), hnm, List.getElem?_eq_getElem hil]
        unfold nameN
        rw [if_neg hc]
      · exact h1 j (by omega)
theorem named_f (names : List Int) (h4 : names.length = 4) (l : List S44) (hl : l.length ≤ 1048576) (hv : varsOK l = true) (k : Nat) (hk : l.length < k) : spec_l8Named.f k l names = some (l.map (nameN names)) := by
  unfold spec_l8Named.f spec_l2Own.f
  rw [Option.bind_some, if_pos (by simp; omega), List.nil_append, Option.bind_some]
  exact named_run names h4 l hl hv l.length _ 0 l (by omega) rfl (fun j hj => absurd hj (Nat.not_lt_zero _)) (fun j _ => rfl) hk
theorem specSame_run (l m u v : List S44) (hl : l.length ≤ 1048576) (hm : m.length ≤ 1048576) (v0 : varsOK l = true) (v1 : varsOK m = true) (ps : List (List Int)) (hp4 : ∀ x ∈ ps, x.length = 4) (hps : ps.length ≤ 1048576) (d : Nat) : ∀ (k i : Nat), i + d = ps.length → d + l.length + m.length + 1 < k →
    spec_l8Same.l0 k ps (ps.length : Int) (i : Int) l m u v = some ((ps.drop i).any fun names => sameN (l.map (nameN names)) u && sameN (m.map (nameN names)) v) := by
  induction d with
  | zero =>
    intro k i hi hk
    obtain ⟨k, rfl⟩ : ∃ m, k = m + 1 := ⟨k - 1, by omega⟩
    simp only [spec_l8Same.l0]
    rw [if_neg (by omega), List.drop_of_length_le (by omega)]
    rfl
  | succ d ih =>
    intro k i hi hk
    obtain ⟨k, rfl⟩ : ∃ m, k = m + 1 := ⟨k - 1, by omega⟩
    have hil : i < ps.length := by omega
    have e : rd_L3 ps (i : Int) = ps[i] := by unfold rd_L3; rw [Int.toNat_natCast, List.getD_eq_getElem?_getD, List.getElem?_eq_getElem hil]; rfl
    have h4 := hp4 _ (List.getElem_mem hil)
    have e1 : (l.map (nameN ps[i])).length = l.length := List.length_map _
    have e2 : (m.map (nameN ps[i])).length = m.length := List.length_map _
    simp only [spec_l8Same.l0]
    rw [if_pos (by omega), if_pos (by omega), if_pos (by omega), e, w64s i (by omega), named_f _ h4 l hl v0 k (by omega), Option.bind_some, same_f _ _ (by omega) k (by omega), Option.bind_some, ih k (i + 1) (by omega) (by omega), List.drop_eq_getElem_cons hil, List.any_cons]
    cases sameN (l.map (nameN ps[i])) u with
    | false => rw [if_neg (by simp), Bool.false_and, Bool.false_or]
    | true =>
      rw [if_pos rfl, named_f _ h4 m hm v1 k (by omega), Option.bind_some, same_f _ _ (by omega) k (by omega), Option.bind_some, Bool.true_and]
      cases sameN (m.map (nameN ps[i])) v with
      | false => rw [if_neg (by simp), Bool.false_or]
      | true => rw [if_pos rfl, Bool.true_or]
theorem same_eq (l m u v : List S44) (hl : l.length ≤ 1048576) (hm : m.length ≤ 1048576) (v0 : varsOK l = true) (v1 : varsOK m = true) (k : Nat) (hk : 300 + l.length + m.length ≤ k) : spec_l8Same.f k l m u v = impl_sameRule.f l m u v := by
  unfold spec_l8Same.f impl_sameRule.f
  have hp := permsL_len 4 []
  rw [perms_f 4 k [] rfl (by omega), Option.bind_some, if_pos ⟨⟨hl, hm⟩, v0, v1⟩, permsL_any]
  exact specSame_run l m u v hl hm v0 v1 (permsL 4 []) (fun x hx => permsL_mem 4 [] x hx) (by omega) (permsL 4 []).length k 0 (by omega) (by omega)
theorem pat_vars {l : List S44} (h : (patTree l).isSome = true) : varsOK l = true := by
  unfold patTree at h
  split at h
  · have h3 := (Tree.treeOf_ok h).2.2
    unfold varsOK
    rw [List.all_eq_true]
    intro x hx
    have hn := h3 (x.f0, x.f1) (List.mem_map.2 ⟨x, hx, rfl⟩)
    apply decide_eq_true
    intro h2
    unfold Tree.numOK at hn
    simp only at hn
    rw [if_neg (by omega), if_pos h2] at hn
    exact of_decide_eq_true hn
  · exact absurd h (by simp)
theorem szR_g (l m : List S46) (a : Int) (h0 : 0 ≤ a) (ha : a ≤ 1048576) (hl : l.length ≤ 9223372036854775807) (hm : m.length ≤ 9223372036854775807) : ∃ t, laws_szRule.f l m a = some t ∧ t ≤ 1048576 ∧ (t < 0 ∨ (l.length ≤ 1048576 ∧ m.length ≤ 1048576)) := by
  unfold laws_szRule.f
  rw [szN_f l a h0 ha hl, Option.bind_some]
  by_cases h : a - (l.length : Int) < 0
  · rw [if_pos h, if_pos (by omega)]
    exact ⟨_, rfl, by omega, .inl (by omega)⟩
  · rw [if_neg h, if_neg h, szN_f m _ (by omega) (by omega) hm, Option.bind_some]
    by_cases h' : a - (l.length : Int) - (m.length : Int) < 0
    · rw [if_pos h', if_pos (by omega)]
      exact ⟨_, rfl, by omega, .inl (by omega)⟩
    · rw [if_neg h', if_neg h']
      exact ⟨_, rfl, by omega, .inr (by omega)⟩
theorem goodRule_f (l m : List S44) (hl : l.length ≤ 1048576) (hm : m.length ≤ 1048576) (k : Nat) (hk : l.length + 1 < k) (hk' : m.length + 1 < k) : spec_GoodRule.f k l m = some ((patTree l).isSome && (patTree m).isSome) ∧ impl_GoodRule.f l m = some ((patTree l).isSome && (patTree m).isSome) := by
  unfold spec_GoodRule.f impl_GoodRule.f
  rw [specPat_f l hl k (by omega), specPat_f m hm k (by omega)]
  unfold impl_GoodPattern.f
  constructor <;> cases (patTree l).isSome <;> rfl
theorem sameRule_eq (l m u v : List S44) (hl : l.length ≤ 1048576) (hm : m.length ≤ 1048576) (hu : u.length ≤ 1048576) (hv : v.length ≤ 1048576) (k : Nat) (hk : 300 + l.length + m.length + u.length + v.length ≤ k) : ∃ p, spec_SameRule.f k l m u v = some p ∧ impl_SameRule.f l m u v = some p := by
  unfold spec_SameRule.f impl_SameRule.f
  obtain ⟨g1, g2⟩ := goodRule_f l m hl hm k (by omega) (by omega)
  obtain ⟨g3, g4⟩ := goodRule_f u v hu hv k (by omega) (by omega)
  rw [g1, g2, g3, g4]
  simp only [Option.bind_some]
  cases h1 : (patTree l).isSome with
  | false => exact ⟨_, rfl, rfl⟩
  | true =>
    cases h2 : (patTree m).isSome with
    | false => exact ⟨_, rfl, rfl⟩
    | true =>
      cases (patTree u).isSome && (patTree v).isSome with
      | false => exact ⟨_, rfl, rfl⟩
      | true =>
        simp only [Bool.and_self, if_true]
        rw [same_eq l m u v hl hm (pat_vars h1) (pat_vars h2) k (by omega)]
        unfold impl_sameRule.f
        rw [if_pos ⟨⟨hl, hm⟩, pat_vars h1, pat_vars h2⟩]
        exact ⟨_, rfl, rfl⟩
theorem FnExactSameRule : RdFnExactSameRule.Pure := by
  rintro ⟨l, m⟩ ⟨u, v⟩ _ hl hm _ hu hv
  simp only at hl hm hu hv ⊢
  refine ⟨l.length + m.length + u.length + v.length + 320, ?_⟩
  unfold laws_FnExactSameRule.f
  obtain ⟨t, ht, hta, hh⟩ := szR_g l m 1048576 (by omega) (by omega) hl hm
  rw [ht, Option.bind_some]
  by_cases h : t < 0
  · rw [if_pos h]
  · obtain ⟨hl2, hm2⟩ : l.length ≤ 1048576 ∧ m.length ≤ 1048576 := hh.resolve_left h
    obtain ⟨t', ht', hta', hh'⟩ := szR_g u v t (by omega) hta hu hv
    rw [if_neg h, ht', Option.bind_some]
    by_cases h' : t' < 0
    · rw [if_pos h']
    · obtain ⟨hu2, hv2⟩ : u.length ≤ 1048576 ∧ v.length ≤ 1048576 := hh'.resolve_left h'
      have e1 : (l.map cvN).length = l.length := List.length_map _
      have e2 : (m.map cvN).length = m.length := List.length_map _
      have e3 : (u.map cvN).length = u.length := List.length_map _
      have e4 : (v.map cvN).length = v.length := List.length_map _
      obtain ⟨p, hs, hp⟩ := sameRule_eq (l.map cvN) (m.map cvN) (u.map cvN) (v.map cvN) (by omega) (by omega) (by omega) (by omega) (l.length + m.length + u.length + v.length + 320) (by omega)
      have t0 := toR_f l m hl2 hm2 (l.length + m.length + u.length + v.length + 320) (by omega) (by omega)
      have t1 := toR_f l m hl2 hm2 (l.length + m.length + u.length + v.length + 319) (by omega) (by omega)
      have q1 := eqR_f (l.map cvN) (m.map cvN) (by omega) (by omega) (l.length + m.length + u.length + v.length + 319) (by omega) (by omega)
      have s0 := toR_f u v hu2 hv2 (l.length + m.length + u.length + v.length + 320) (by omega) (by omega)
      have s1 := toR_f u v hu2 hv2 (l.length + m.length + u.length + v.length + 319) (by omega) (by omega)
      have r1 := eqR_f (u.map cvN) (v.map cvN) (by omega) (by omega) (l.length + m.length + u.length + v.length + 319) (by omega) (by omega)
      rw [if_neg h']
      simp only [t0, s0, hs, hp, Option.bind_some, if_true, bne_self_eq_false, Bool.false_eq_true, if_false]
      simp only [laws_FnExactSameRule.j0, t1, q1, s1, r1, Option.bind_some, if_true, Bool.false_eq_true, if_false]

end Go.Proofs.Ytkpnpclehnilfaa.Pure
