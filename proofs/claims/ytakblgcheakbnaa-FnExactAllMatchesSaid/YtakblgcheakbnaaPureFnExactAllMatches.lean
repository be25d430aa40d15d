/- The program's AllMatches and the reference's answer alike at every graph and every list of nodes; no condition. -/
import Derived.Test.YtakblgcheakbnaaPFnExactAllMatchesx16
import Derived.Test.YtakblgcheakbnaaRdFnExactAllMatches
set_option linter.unusedVariables false
set_option linter.unusedSimpArgs false
namespace Go.Proofs.Ytakblgcheakbnaa.Pure
open Go.RowKit Go.Proofs.Ytakblgcheakbnaa.PFnExactAllMatches Go.Proofs.YtakblgcheakbnaaW.PrintWords Go.Proofs.YtakblgcheakbnaaW.PrintLast Go.Proofs.YtakblgcheakbnaaW.PrintMore

theorem wn64s (i : Nat) (h : i ≤ 140737488355328) : wrap64 ((i : Int) + 1) = ((i + 1 : Nat) : Int) := by unfold wrap64; omega
def cvN (x : S98) : S96 := ⟨x.f0, x.f1⟩
theorem rdN_nat (l : List S96) (i : Nat) : rd_T96 l (i : Int) = l.getD i z96 := by simp [rd_T96]
theorem szN_f (l : List S98) (m : Int) (hm0 : 0 ≤ m) (hm : m ≤ 1048576) (hl : l.length ≤ 9223372036854775807) : laws_szNodeS.f l m = some (if m - (l.length : Int) < 0 then -1 else m - (l.length : Int)) := by
 unfold laws_szNodeS.f
 have e : wrap64 (m - (l.length : Int)) = m - (l.length : Int) := by unfold wrap64; omega
 rw [e]
 split <;> rfl
theorem toN_run (x0 : List S98) (hn : x0.length ≤ 140737488351232) (d : Nat) : ∀ (k i : Nat) (x3 : List S96), i + d = x0.length → x3.length = x0.length → (∀ j, j < i → x3[j]? = (x0.map cvN)[j]?) → d < k →
  laws_toNodeS.l0 k x0 x3 (i : Int) = some (x0.map cvN) := by
 induction d with
 | zero =>
  intro k i x3 hi hl hj hk
  obtain ⟨k, rfl⟩ : ∃ m, k = m + 1 := ⟨k - 1, by omega⟩
  simp only [laws_toNodeS.l0]
  rw [if_neg (by omega)]
  congr 1
  apply List.ext_getElem?
  intro j
  by_cases h : j < i
  ·exact hj j h
  ·rw [List.getElem?_eq_none (by omega), List.getElem?_eq_none (by rw [List.length_map]; omega)]
 | succ d ih =>
  intro k i x3 hi hl hj hk
  obtain ⟨k, rfl⟩ : ∃ m, k = m + 1 := ⟨k - 1, by omega⟩
  simp only [laws_toNodeS.l0, laws_toNode.f, Option.bind_some]
  rw [if_pos (by omega), if_pos (by omega), if_pos (by omega), wn64s i (by omega)]
  refine ih k (i + 1) _ (by omega) (by simpa using hl) ?_ (by omega)
  intro j hji
  rw [Int.toNat_natCast, List.getElem?_set]
  by_cases h : i = j
  ·subst h
   rw [if_pos rfl, if_pos (by omega), List.getElem?_map, List.getElem?_eq_getElem (by omega)]
   simp [rd_T98, cvN, List.getD_eq_getElem?_getD, List.getElem?_eq_getElem (show i < x0.length by omega)]
  ·rw [if_neg h]
   exact hj j (by omega)
theorem toN_f (l : List S98) (hn : l.length ≤ 1048576) (k : Nat) (hk : l.length < k) : laws_toNodeS.f k l = some (l.map cvN) := by
 unfold laws_toNodeS.f
 rw [if_pos (by omega), if_pos (by omega)]
 exact toN_run l (by omega) l.length k 0 _ (by omega) (by simp) (fun j hj => by omega) hk
theorem eqN_run (x0 : List S96) (hn : x0.length ≤ 140737488351232) (d : Nat) : ∀ (k i : Nat), i + d = x0.length → d < k → laws_eqNodeS.l0 k x0 x0 (i : Int) = some true := by
 induction d with
 | zero =>
  intro k i hi hk
  obtain ⟨k, rfl⟩ : ∃ m, k = m + 1 := ⟨k - 1, by omega⟩
  simp only [laws_eqNodeS.l0]
  rw [if_neg (by omega)]
 | succ d ih =>
  intro k i hi hk
  obtain ⟨k, rfl⟩ : ∃ m, k = m + 1 := ⟨k - 1, by omega⟩
  simp only [laws_eqNodeS.l0, laws_eqNode.f]
  rw [if_pos (by omega), if_pos (by omega), if_pos (by omega), if_pos trivial, if_pos trivial, Option.bind_some, if_pos rfl, wn64s i (by omega)]
  exact ih k (i + 1) (by omega) (by omega)
theorem eqN_f (l : List S96) (hn : l.length ≤ 140737488351232) (k : Nat) (hk : l.length < k) : laws_eqNodeS.f k l l = some true := by
 unfold laws_eqNodeS.f
 rw [if_pos rfl]
 exact eqN_run l hn l.length k 0 (by omega) hk

theorem specArity_g (k : Nat) (hk : 0 < k) (op : Int) : spec_l1Arity.f k op = some (if 1 ≤ op ∧ op ≤ 11 then Tree.arity op else -1) := by
 obtain ⟨k, rfl⟩ : ∃ m, k = m + 1 := ⟨k - 1, by omega⟩
 unfold spec_l1Arity.f Tree.arity
 by_cases h1 : op = 1
 ·subst h1; rfl
 ·rw [if_neg h1]
  by_cases h2 : op = 2
  ·subst h2; rfl
  ·rw [if_neg (by omega : ¬ (op = 1 ∨ op = 2))]
   simp only [spec_l1Arity.j0]
   rw [if_neg (by simpa using h2)]
   by_cases h3 : op = 3
   ·subst h3; rfl
   ·rw [if_neg h3, if_neg h3]
    by_cases h4 : op = 11
    ·subst h4; rfl
    ·rw [if_neg h4, if_neg h4]
     unfold spec_l1In.f
     by_cases h5 : op ≥ 4
     ·by_cases h6 : op ≤ 10
      ·rw [if_pos h5, Option.bind_some, decide_eq_true h6, if_pos rfl, if_pos (by omega)]
      ·rw [if_pos h5, Option.bind_some, decide_eq_false h6, if_neg (by simp), if_neg (by omega)]
     ·rw [if_neg h5, Option.bind_some, if_neg (by simp), if_neg (by omega)]
/-- How many trees a list of nodes leaves. -/
def goodB (r : Option (List Tree.Tr × List Tree.Tr)) : Bool := match r with | some s => s.1.length == 1 | none => false
theorem specGood_run (t : List S96) (hn : t.length ≤ 1048576) (d : Nat) : ∀ (k i : Nat) (s : List Tree.Tr × List Tree.Tr), i + d = t.length → Tree.build (toP (t.take i)) ([], []) = some s → d + 1 < k →
  spec_GoodTerm.l0 k (s.1.length : Int) t (t.length : Int) (i : Int) = some (goodB (Tree.build (toP t) ([], []))) := by
 induction d with
 | zero =>
  intro k i s hi hs hk
  obtain ⟨k, rfl⟩ : ∃ m, k = m + 1 := ⟨k - 1, by omega⟩
  simp only [spec_GoodTerm.l0]
  have e : t.take i = t := List.take_of_length_le (by omega)
  rw [e] at hs
  rw [if_neg (by omega), hs]
  show some ((s.1.length : Int) == 1) = some (s.1.length == 1)
  congr 1
  rw [Bool.eq_iff_iff]; simp; omega
 | succ d ih =>
  intro k i s hi hs hk
  obtain ⟨k, rfl⟩ : ∃ m, k = m + 1 := ⟨k - 1, by omega⟩
  simp only [spec_GoodTerm.l0]
  rw [if_pos (by omega), if_pos (by omega), if_pos (by omega), specArity_g k (by omega), Option.bind_some, wn64s i (by omega), rdN_nat]
  have hlen := (Tree.build_len _ _ _ hs).1
  rw [toP_len, List.length_take] at hlen
  have hl2 : s.1.length ≤ t.length := by simp at hlen; omega
  have hsucc := build_succ t i (by omega) hs
  have hfail := build_fail t i (by omega) hs
  generalize t.getD i z96 = x at hsucc hfail ⊢
  obtain ⟨op, n⟩ := x
  simp only at hsucc hfail ⊢
  have hr := Tree.arity_range op
  have hbad : (Tree.numOK op n = true ∧ Tree.arity op ≤ (s.1.length : Int)) → False → True := fun _ _ => trivial
  by_cases hst : Tree.numOK op n = true ∧ Tree.arity op ≤ (s.1.length : Int)
  ·have hstep : Tree.step s (op, n) = some (s.1.take (s.1.length - (Tree.arity op).toNat) ++ [.mk op n (s.1.drop (s.1.length - (Tree.arity op).toNat))], s.2 ++ [.mk op n (s.1.drop (s.1.length - (Tree.arity op).toNat))]) := if_pos hst
   rw [hstep] at hsucc
   have hgo := ih k (i + 1) _ (by omega) hsucc (by omega)
   have hlen' : (((s.1.take (s.1.length - (Tree.arity op).toNat) ++ [Tree.Tr.mk op n (s.1.drop (s.1.length - (Tree.arity op).toNat))]).length : Nat) : Int) = wrap64 ((s.1.length : Int) + wrap64 (1 - Tree.arity op)) := by
    rw [List.length_append, List.length_take, List.length_singleton]
    unfold wrap64
    omega
   simp only [hlen'] at hgo
   obtain ⟨hN, hA⟩ := hst
   unfold Tree.numOK at hN
   have hop : 1 ≤ op ∧ op ≤ 11 := by
    by_cases h1 : op = 1
    ·omega
    ·rw [if_neg h1] at hN
     by_cases h2 : op = 2
     ·omega
     ·rw [if_neg h2] at hN
      have := of_decide_eq_true hN
      omega
   rw [if_pos hop, if_neg (by omega), if_neg (by omega)]
   by_cases h2 : op = 2
   ·subst h2
    rw [if_neg (by omega), if_pos rfl] at hN
    have hN := of_decide_eq_true hN
    rw [if_pos rfl, if_neg (by omega), if_neg (by omega), if_neg (by decide)]
    exact hgo
   ·rw [if_neg h2]
    by_cases h1 : op = 1
    ·subst h1
     rw [if_neg (by decide)]
     exact hgo
    ·rw [if_neg h1, if_neg h2] at hN
     have hN := of_decide_eq_true hN
     have hpos : Tree.arity op > 0 := by
      unfold Tree.arity
      rw [if_neg (by omega)]
      split
      ·omega
      ·split <;> omega
     rw [if_pos hpos, if_pos hN.2.2]
     exact hgo
  ·rw [hfail (if_neg hst)]
   show _ = some false
   by_cases hop : 1 ≤ op ∧ op ≤ 11
   ·rw [if_pos hop, if_neg (by omega)]
    by_cases ha : (s.1.length : Int) < Tree.arity op
    ·rw [if_pos ha]
    ·rw [if_neg ha]
     have hN : ¬ Tree.numOK op n = true := fun h => hst ⟨h, by omega⟩
     unfold Tree.numOK at hN
     by_cases h2 : op = 2
     ·subst h2
      rw [if_neg (by omega), if_pos rfl] at hN
      have hN : ¬ (0 ≤ n ∧ n < 4) := fun h => hN (decide_eq_true h)
      rw [if_pos rfl]
      by_cases hn0 : n < 0
      ·rw [if_pos hn0]
      ·rw [if_neg hn0, if_pos (by omega)]
     ·rw [if_neg h2]
      by_cases h1 : op = 1
      ·exact absurd (if_pos h1) hN
      ·rw [if_neg h1, if_neg h2] at hN
       have hN : ¬ (1 ≤ op ∧ op ≤ 11 ∧ n = 0) := fun h => hN (decide_eq_true h)
       have hpos : Tree.arity op > 0 := by
        unfold Tree.arity
        rw [if_neg (by omega)]
        split
        ·omega
        ·split <;> omega
       rw [if_pos hpos, if_neg (by omega)]
   ·rw [if_neg hop, if_pos (by omega)]
theorem treeOf_isSome (t : List (Int × Int)) : (Tree.treeOf t).isSome = (decide (1 ≤ t.length ∧ t.length ≤ 40) && goodB (Tree.build t ([], []))) := by
 unfold Tree.treeOf Tree.treesOf
 by_cases h : 1 ≤ t.length ∧ t.length ≤ 40
 ·rw [if_pos h, decide_eq_true h, Bool.true_and]
  cases hb : Tree.build t ([], []) with
  | none => rfl
  | some s =>
   show (Option.bind (if s.1.length = 1 then some s.2 else none) List.getLast?).isSome = (s.1.length == 1)
   by_cases h1 : s.1.length = 1
   ·have hl := (Tree.build_len _ _ _ hb).2
    rw [if_pos h1, Option.bind_some, h1]
    cases hs : s.2 with
    | nil => rw [hs] at hl; simp at hl; omega
    | cons a l => rw [List.getLast?_cons]; rfl
   ·rw [if_neg h1]
    simp [h1]
 ·rw [if_neg h, decide_eq_false h]; rfl
theorem specGood_f (t : List S96) (hn : t.length ≤ 1048576) (k : Nat) (hk : t.length + 1 < k) : spec_GoodTerm.f k t = some (Tree.treeOf (toP t)).isSome := by
 unfold spec_GoodTerm.f spec_l1In.f
 rw [treeOf_isSome, toP_len]
 by_cases h0 : 1 ≤ t.length
 ·rw [if_pos (by omega), Option.bind_some]
  by_cases h1 : t.length ≤ 40
  ·rw [decide_eq_true (by omega), if_pos rfl, decide_eq_true (⟨h0, h1⟩ : 1 ≤ t.length ∧ t.length ≤ 40), Bool.true_and]
   exact specGood_run t hn t.length k 0 ([], []) (by omega) rfl hk
  ·rw [decide_eq_false (by omega), if_neg (by simp), decide_eq_false (by omega)]; rfl
 ·rw [if_neg (by omega), Option.bind_some, if_neg (by simp), decide_eq_false (by omega)]; rfl

theorem w64 (x : Int) (h0 : -9223372036854775808 ≤ x) (h1 : x ≤ 9223372036854775807) : wrap64 x = x := by unfold wrap64; omega
theorem w64s (i : Nat) (h : i ≤ 140737488355328) : wrap64 ((i : Int) + 1) = ((i + 1 : Nat) : Int) := by rw [w64 _ (by omega) (by omega)]; omega
theorem rd_nat (l : List Int) (i : Nat) : rd l (i : Int) = l.getD i 0 := by simp [rd]
theorem getD_lt (l : List Int) (i : Nat) (h : i < l.length) : l.getD i 0 = l[i] := by simp [List.getD_eq_getElem?_getD, h]

theorem laws_toIntS_run (x0 : List Int) (hn : x0.length ≤ 140737488351232) (d : Nat) : ∀ (k i : Nat) (x3 : List Int), i + d = x0.length → x3.length = x0.length → (∀ j, j < i → x3[j]? = x0[j]?) → d < k →
  laws_toIntS.l0 k x0 x3 (i : Int) = some x0 := by
 induction d with
 | zero =>
  intro k i x3 hi hl hj hk
  obtain ⟨k, rfl⟩ : ∃ m, k = m + 1 := ⟨k - 1, by omega⟩
  simp only [laws_toIntS.l0]
  rw [if_neg (by omega)]
  congr 1
  apply List.ext_getElem?
  intro j
  by_cases h : j < i
  ·exact hj j h
  ·rw [List.getElem?_eq_none (by omega), List.getElem?_eq_none (by omega)]
 | succ d ih =>
  intro k i x3 hi hl hj hk
  obtain ⟨k, rfl⟩ : ∃ m, k = m + 1 := ⟨k - 1, by omega⟩
  simp only [laws_toIntS.l0]
  rw [if_pos (by omega), if_pos (by omega), if_pos (by omega), w64s i (by omega)]
  refine ih k (i + 1) _ (by omega) (by simpa using hl) ?_ (by omega)
  intro j hji
  rw [Int.toNat_natCast, rd_nat, List.getElem?_set]
  by_cases h : i = j
  ·subst h
   rw [if_pos rfl, if_pos (by omega), getD_lt _ _ (by omega), List.getElem?_eq_getElem (by omega)]
  ·rw [if_neg h]
   exact hj j (by omega)
theorem laws_toIntS_f (l : List Int) (hn : l.length ≤ 1048576) (k : Nat) (hk : l.length < k) : laws_toIntS.f k l = some l := by
 unfold laws_toIntS.f
 rw [if_pos (by omega), if_pos (by omega)]
 exact laws_toIntS_run l (by omega) l.length k 0 _ (by omega) (by simp) (fun j hj => by omega) hk

theorem laws_eqIntS_run (x0 : List Int) (hn : x0.length ≤ 140737488351232) (d : Nat) : ∀ (k i : Nat), i + d = x0.length → d < k → laws_eqIntS.l0 k x0 x0 (i : Int) = some true := by
 induction d with
 | zero =>
  intro k i hi hk
  obtain ⟨k, rfl⟩ : ∃ m, k = m + 1 := ⟨k - 1, by omega⟩
  simp only [laws_eqIntS.l0]
  rw [if_neg (by omega)]
 | succ d ih =>
  intro k i hi hk
  obtain ⟨k, rfl⟩ : ∃ m, k = m + 1 := ⟨k - 1, by omega⟩
  simp only [laws_eqIntS.l0]
  rw [if_pos (by omega), if_pos (by omega), if_pos (by omega), if_pos trivial, w64s i (by omega)]
  exact ih k (i + 1) (by omega) (by omega)
theorem laws_eqIntS_f (l : List Int) (hn : l.length ≤ 140737488351232) (k : Nat) (hk : l.length < k) : laws_eqIntS.f k l l = some true := by
 unfold laws_eqIntS.f
 rw [if_pos rfl]
 exact laws_eqIntS_run l hn l.length k 0 (by omega) hk

/-- Parts: each number's is at most itself, and its own. -/
def goodAt (l : List Int) (i : Nat) : Prop := 0 ≤ l.getD i 0 ∧ l.getD i 0 ≤ (i : Int) ∧ l.getD (l.getD i 0).toNat 0 = l.getD i 0
instance (l : List Int) (i : Nat) : Decidable (goodAt l i) := by unfold goodAt; infer_instance
def okParts (l : List Int) : Bool := decide ((∀ i : Nat, i < l.length → goodAt l i) ∧ l.length ≤ 200)
theorem rd_int (l : List Int) (x : Int) : rd l x = l.getD x.toNat 0 := rfl
theorem spec_GoodParts_run (x0 : List Int) (hn : x0.length ≤ 200) (d : Nat) : ∀ (k i : Nat), i + d = x0.length → (∀ j : Nat, j < i → goodAt x0 j) → d < k →
  spec_GoodParts.l0 k x0 x0 (x0.length : Int) (i : Int) = some (okParts x0) := by
 induction d with
 | zero =>
  intro k i hi hj hk
  obtain ⟨k, rfl⟩ : ∃ m, k = m + 1 := ⟨k - 1, by omega⟩
  simp only [spec_GoodParts.l0]
  rw [if_neg (by omega)]
  congr 1
  symm
  exact decide_eq_true ⟨fun j hj' => hj j (by omega), hn⟩
 | succ d ih =>
  intro k i hi hj hk
  obtain ⟨k, rfl⟩ : ∃ m, k = m + 1 := ⟨k - 1, by omega⟩
  simp only [spec_GoodParts.l0]
  rw [if_pos (by omega), if_pos (by omega), if_pos (by omega), rd_nat]
  unfold spec_l1In.f
  by_cases h0 : x0.getD i 0 ≥ 0
  ·rw [if_pos h0]
   by_cases h1 : x0.getD i 0 ≤ (i : Int)
   ·rw [decide_eq_true h1, Option.bind_some, if_pos rfl, if_pos (by omega), if_pos (by omega), w64s i (by omega), rd_int]
    by_cases h2 : x0.getD (x0.getD i 0).toNat 0 = x0.getD i 0
    ·rw [if_pos h2]
     exact ih k (i + 1) (by omega) (fun j hj' => by
      by_cases e : j = i
      ·subst e; exact ⟨h0, h1, h2⟩
      ·exact hj j (by omega)) (by omega)
    ·rw [if_neg h2]
     congr 1
     symm
     exact decide_eq_false (fun h => h2 (h.1 i (by omega)).2.2)
   ·rw [decide_eq_false h1, Option.bind_some, if_neg (by simp)]
    congr 1
    symm
    exact decide_eq_false (fun h => h1 (h.1 i (by omega)).2.1)
  ·rw [if_neg h0, Option.bind_some, if_neg (by simp)]
   congr 1
   symm
   exact decide_eq_false (fun h => h0 (h.1 i (by omega)).1)
theorem spec_GoodParts_f (l : List Int) (k : Nat) (hk : l.length < k) : spec_GoodParts.f k l = some (okParts l) := by
 unfold spec_GoodParts.f
 by_cases h : (l.length : Int) > 200
 ·rw [if_pos h]
  congr 1
  symm
  exact decide_eq_false (fun h' => by have := h'.2; omega)
 ·rw [if_neg h]
  exact spec_GoodParts_run l (by omega) l.length k 0 (by omega) (fun j hj => by omega) hk
/-- Parents, as the program asks first. -/
def okPar (l : List Int) : Bool := decide ((∀ i : Nat, i < l.length → 0 ≤ l.getD i 0 ∧ l.getD i 0 ≤ (i : Int)) ∧ l.length ≤ 200)
theorem impl_parentsOK_run (x0 : List Int) (hn : x0.length ≤ 140737488351232) (d : Nat) : ∀ (k i : Nat), i + d = x0.length → (∀ j : Nat, j < i → 0 ≤ x0.getD j 0 ∧ x0.getD j 0 ≤ (j : Int)) → d < k →
  impl_parentsOK.l0 k x0 x0 (x0.length : Int) (i : Int) = some (okPar x0) := by
 induction d with
 | zero =>
  intro k i hi hj hk
  obtain ⟨k, rfl⟩ : ∃ m, k = m + 1 := ⟨k - 1, by omega⟩
  simp only [impl_parentsOK.l0]
  rw [if_neg (by omega)]
  congr 1
  unfold okPar
  rw [decide_eq_decide]
  constructor
  ·intro h; exact ⟨fun j hj' => hj j (by omega), by omega⟩
  ·intro h; have := h.2; omega
 | succ d ih =>
  intro k i hi hj hk
  obtain ⟨k, rfl⟩ : ∃ m, k = m + 1 := ⟨k - 1, by omega⟩
  simp only [impl_parentsOK.l0]
  rw [if_pos (by omega), if_pos (by omega), if_pos (by omega), rd_nat]
  unfold impl_within.f
  by_cases h0 : x0.getD i 0 ≥ 0
  ·rw [if_pos h0]
   by_cases h1 : x0.getD i 0 ≤ (i : Int)
   ·rw [decide_eq_true h1, Option.bind_some, if_pos rfl, w64s i (by omega)]
    exact ih k (i + 1) (by omega) (fun j hj' => by
     by_cases e : j = i
     ·subst e; exact ⟨h0, h1⟩
     ·exact hj j (by omega)) (by omega)
   ·rw [decide_eq_false h1, Option.bind_some, if_neg (by simp)]
    congr 1
    symm
    exact decide_eq_false (fun h => h1 (h.1 i (by omega)).2)
  ·rw [if_neg h0, Option.bind_some, if_neg (by simp)]
   congr 1
   symm
   exact decide_eq_false (fun h => h0 (h.1 i (by omega)).1)
theorem impl_parentsOK_f (l : List Int) (hn : l.length ≤ 140737488351232) (k : Nat) (hk : l.length < k) : impl_parentsOK.f k l = some (okPar l) :=
 impl_parentsOK_run l hn l.length k 0 (by omega) (fun j hj => by omega) hk
theorem impl_GoodParts_f (l : List Int) (hn : l.length ≤ 140737488351232) (k : Nat) (hk : l.length < k) : impl_GoodParts.f k l = some (okParts l) := by
 unfold impl_GoodParts.f
 rw [impl_parentsOK_f l hn k hk, Option.bind_some]
 cases hp : okPar l with
 | false =>
  rw [if_neg (by simp)]
  congr 1
  symm
  exact decide_eq_false (fun h => by
   have : okPar l = true := decide_eq_true ⟨fun i hi => ⟨(h.1 i hi).1, (h.1 i hi).2.1⟩, h.2⟩
   rw [hp] at this; cases this)
 | true =>
  have hp' := of_decide_eq_true hp
  rw [if_pos rfl]
  congr 1
  rw [Bool.eq_iff_iff]
  simp only [Bool.not_eq_true', List.any_eq_false, okParts, decide_eq_true_eq]
  constructor
  ·intro h
   refine ⟨fun i hi => ⟨(hp'.1 i hi).1, (hp'.1 i hi).2, ?_⟩, hp'.2⟩
   have := h l[i] (List.getElem_mem hi)
   rw [getD_lt _ _ hi]
   simpa [rd_int] using this
  ·intro h x hx
   obtain ⟨i, hi, rfl⟩ := List.getElem_of_mem hx
   have := (h.1 i hi).2.2
   rw [getD_lt _ _ hi] at this
   simpa [rd_int] using this

def cvE (x : S130) : S114 := ⟨x.f0, x.f1, x.f2⟩
theorem szI_f (l : List Int) (m : Int) (hm0 : 0 ≤ m) (hm : m ≤ 1048576) (hl : l.length ≤ 9223372036854775807) : laws_szIntS.f l m = some (if m - (l.length : Int) < 0 then -1 else m - (l.length : Int)) := by
 unfold laws_szIntS.f
 have e : wrap64 (m - (l.length : Int)) = m - (l.length : Int) := by unfold wrap64; omega
 rw [e]
 split <;> rfl
theorem rdLE_nat (l : List S130) (i : Nat) (h : i < l.length) : rd_T130 l (i : Int) = l[i] := by unfold rd_T130; rw [Int.toNat_natCast, List.getD_eq_getElem?_getD, List.getElem?_eq_getElem h]; rfl
theorem rdE_nat (l : List S114) (i : Nat) (h : i < l.length) : rd_T114 l (i : Int) = l[i] := by unfold rd_T114; rw [Int.toNat_natCast, List.getD_eq_getElem?_getD, List.getElem?_eq_getElem h]; rfl
theorem szE_run (x0 : List S130) (hn : x0.length ≤ 1048576) (hin : ∀ x ∈ x0, x.f2.length ≤ 9223372036854775807) (d : Nat) : ∀ (k i : Nat) (m : Int), i + d = x0.length → d < k → 0 ≤ m → m ≤ 1048576 →
  ∃ t, laws_szENodeS.l0 k x0 m (i : Int) = some t ∧ (t < 0 ∨ (0 ≤ t ∧ t + ((((x0.drop i).map fun x => x.f2.length).sum : Nat) : Int) = m ∧ ∀ j, i ≤ j → (h : j < x0.length) → x0[j].f2.length ≤ 1048576)) := by
 induction d with
 | zero =>
  intro k i m hi hk h0 h1
  obtain ⟨k, rfl⟩ : ∃ j, k = j + 1 := ⟨k - 1, by omega⟩
  simp only [laws_szENodeS.l0]
  rw [if_neg (by omega)]
  exact ⟨_, rfl, .inr ⟨h0, by rw [List.drop_of_length_le (by omega)]; simp, fun j hj h => by omega⟩⟩
 | succ d ih =>
  intro k i m hi hk h0 h1
  obtain ⟨k, rfl⟩ : ∃ j, k = j + 1 := ⟨k - 1, by omega⟩
  have hil : i < x0.length := by omega
  have hx := hin _ (List.getElem_mem hil)
  simp only [laws_szENodeS.l0]
  rw [if_pos (by omega), if_pos (by omega), rdLE_nat _ i hil]
  unfold laws_szENode.f
  rw [szI_f _ m h0 h1 hx, Option.bind_some]
  by_cases hneg : m - (x0[i].f2.length : Int) < 0
  ·rw [if_pos hneg, if_pos (by omega), Option.bind_some, if_pos (by omega)]
   exact ⟨_, rfl, .inl (by omega)⟩
  ·rw [if_neg hneg, if_neg (by omega), Option.bind_some, if_neg (by omega), w64s i (by omega)]
   obtain ⟨t, ht, hh⟩ := ih k (i + 1) (m - (x0[i].f2.length : Int)) (by omega) (by omega) (by omega) (by omega)
   refine ⟨t, ht, hh.imp id (fun h => ⟨h.1, by have h2 := h.2.1; rw [List.drop_eq_getElem_cons hil, List.map_cons, List.sum_cons]; omega, fun j hj hjl => ?_⟩)⟩
   by_cases e : j = i
   ·subst e; omega
   ·exact h.2.2 j (by omega) hjl
theorem szE_f (l : List S130) (m : Int) (h0 : 0 ≤ m) (hm : m ≤ 1048576) (hl : l.length ≤ 9223372036854775807) (hin : ∀ x ∈ l, x.f2.length ≤ 9223372036854775807) (k : Nat) (hk : 1048576 < k) : ∃ t, laws_szENodeS.f k l m = some t ∧ (t < 0 ∨ (0 ≤ t ∧ t ≤ 1048576 ∧ l.length ≤ 1048576 ∧ (∀ x ∈ l, x.f2.length ≤ 1048576) ∧ (l.map fun x => x.f2.length).sum ≤ 1048576)) := by
 unfold laws_szENodeS.f
 have e : wrap64 (m - (l.length : Int)) = m - (l.length : Int) := by unfold wrap64; omega
 rw [e]
 by_cases h : m - (l.length : Int) < 0
 ·rw [if_pos h]; exact ⟨_, rfl, .inl (by omega)⟩
 ·rw [if_neg h]
  obtain ⟨t, ht, hh⟩ := szE_run l (by omega) hin l.length k 0 (m - (l.length : Int)) (by omega) (by omega) (by omega) (by omega)
  refine ⟨t, ht, hh.imp id (fun h => ?_)⟩
  have h2 := h.2.1
  rw [List.drop_zero] at h2
  refine ⟨h.1, by omega, by omega, fun x hx => ?_, by omega⟩
  obtain ⟨j, hj, rfl⟩ := List.getElem_of_mem hx
  exact h.2.2 j (Nat.zero_le _) hj
theorem toE_run (x0 : List S130) (hn : x0.length ≤ 1048576) (hin : ∀ x ∈ x0, x.f2.length ≤ 1048576) (d : Nat) : ∀ (k i : Nat) (x3 : List S114), i + d = x0.length → x3.length = x0.length → (∀ j, j < i → x3[j]? = (x0.map cvE)[j]?) → d + 1048577 < k →
  laws_toENodeS.l0 k x0 x3 (i : Int) = some (x0.map cvE) := by
 induction d with
 | zero =>
  intro k i x3 hi hl hj hk
  obtain ⟨k, rfl⟩ : ∃ m, k = m + 1 := ⟨k - 1, by omega⟩
  simp only [laws_toENodeS.l0]
  rw [if_neg (by omega)]
  congr 1
  apply List.ext_getElem?
  intro j
  by_cases h : j < i
  ·exact hj j h
  ·rw [List.getElem?_eq_none (by omega), List.getElem?_eq_none (by rw [List.length_map]; omega)]
 | succ d ih =>
  intro k i x3 hi hl hj hk
  obtain ⟨k, rfl⟩ : ∃ m, k = m + 1 := ⟨k - 1, by omega⟩
  have hil : i < x0.length := by omega
  have hx := hin _ (List.getElem_mem hil)
  simp only [laws_toENodeS.l0]
  rw [if_pos (by omega), if_pos (by omega), rdLE_nat _ i hil]
  unfold laws_toENode.f
  rw [laws_toIntS_f _ hx k (by omega), Option.bind_some, Option.bind_some, if_pos (by omega), w64s i (by omega)]
  refine ih k (i + 1) _ (by omega) (by simpa using hl) ?_ (by omega)
  intro j hji
  rw [Int.toNat_natCast, List.getElem?_set]
  by_cases h : i = j
  ·subst h
   rw [if_pos rfl, if_pos (by omega), List.getElem?_map, List.getElem?_eq_getElem hil]
   rfl
  ·rw [if_neg h]
   exact hj j (by omega)
theorem toE_f (l : List S130) (hn : l.length ≤ 1048576) (hin : ∀ x ∈ l, x.f2.length ≤ 1048576) (k : Nat) (hk : 2097160 < k) : laws_toENodeS.f k l = some (l.map cvE) := by
 unfold laws_toENodeS.f
 rw [if_pos (by omega), if_pos (by omega)]
 exact toE_run l hn hin l.length k 0 _ (by omega) (by simp) (fun j hj => by omega) (by omega)
theorem eqE_run (x0 : List S114) (hn : x0.length ≤ 1048576) (hin : ∀ x ∈ x0, x.f2.length ≤ 1048576) (d : Nat) : ∀ (k i : Nat), i + d = x0.length → d + 1048577 < k → laws_eqENodeS.l0 k x0 x0 (i : Int) = some true := by
 induction d with
 | zero =>
  intro k i hi hk
  obtain ⟨k, rfl⟩ : ∃ m, k = m + 1 := ⟨k - 1, by omega⟩
  simp only [laws_eqENodeS.l0]
  rw [if_neg (by omega)]
 | succ d ih =>
  intro k i hi hk
  obtain ⟨k, rfl⟩ : ∃ m, k = m + 1 := ⟨k - 1, by omega⟩
  have hil : i < x0.length := by omega
  have hx := hin _ (List.getElem_mem hil)
  simp only [laws_eqENodeS.l0]
  rw [if_pos (by omega), if_pos (by omega), if_pos (by omega), rdE_nat _ i hil]
  unfold laws_eqENode.f
  rw [laws_eqIntS_f _ (by omega) k (by omega), if_pos rfl, if_pos rfl, Option.bind_some, if_pos rfl, Option.bind_some, if_pos rfl, w64s i (by omega)]
  exact ih k (i + 1) (by omega) (by omega)
theorem eqE_f (l : List S114) (hn : l.length ≤ 1048576) (hin : ∀ x ∈ l, x.f2.length ≤ 1048576) (k : Nat) (hk : 2097160 < k) : laws_eqENodeS.f k l l = some true := by
 unfold laws_eqENodeS.f
 rw [if_pos rfl]
 exact eqE_run l hn hin l.length k 0 (by omega) (by omega)
theorem cvE_len (l : List S130) (hin : ∀ x ∈ l, x.f2.length ≤ 1048576) : ∀ x ∈ l.map cvE, x.f2.length ≤ 1048576 := fun x hx => by
 obtain ⟨y, hy, rfl⟩ := List.mem_map.1 hx
 exact hin y hy

theorem szG_f (n : List S130) (p : List Int) (m : Int) (h0 : 0 ≤ m) (hm : m ≤ 1048576) (hl : n.length ≤ 9223372036854775807) (hin : ∀ x ∈ n, x.f2.length ≤ 9223372036854775807) (hp : p.length ≤ 9223372036854775807) (k : Nat) (hk : 1048576 < k) : ∃ t, laws_szEGraph.f k n p m = some t ∧ (t < 0 ∨ (0 ≤ t ∧ t ≤ 1048576 ∧ n.length ≤ 1048576 ∧ (∀ x ∈ n, x.f2.length ≤ 1048576) ∧ p.length ≤ 1048576 ∧ (n.map fun x => x.f2.length).sum ≤ 1048576)) := by
 unfold laws_szEGraph.f
 obtain ⟨t, ht, hh⟩ := szE_f n m h0 hm hl hin k hk
 rw [ht, Option.bind_some]
 by_cases h : t < 0
 ·rw [if_pos h]; exact ⟨_, rfl, .inl (by omega)⟩
 ·obtain ⟨a, b, c, d, e⟩ := hh.resolve_left h
  rw [if_neg h, szI_f p t a b hp, Option.bind_some]
  by_cases h' : t - (p.length : Int) < 0
  ·rw [if_pos h', if_pos (by omega)]; exact ⟨_, rfl, .inl (by omega)⟩
  ·rw [if_neg h', if_neg h']; exact ⟨_, rfl, .inr ⟨by omega, by omega, c, d, by omega, e⟩⟩
theorem toG_f (n : List S130) (p : List Int) (hn : n.length ≤ 1048576) (hin : ∀ x ∈ n, x.f2.length ≤ 1048576) (hp : p.length ≤ 1048576) (k : Nat) (hk : 2097160 < k) : laws_toEGraph.f k n p = some (n.map cvE, p) := by
 unfold laws_toEGraph.f
 rw [toE_f n hn hin k hk, Option.bind_some, laws_toIntS_f p hp k (by omega)]
 rfl
theorem eqG_f (n : List S114) (p : List Int) (hn : n.length ≤ 1048576) (hin : ∀ x ∈ n, x.f2.length ≤ 1048576) (hp : p.length ≤ 1048576) (k : Nat) (hk : 2097160 < k) : laws_eqEGraph.f k n p n p = some true := by
 unfold laws_eqEGraph.f
 rw [eqE_f n hn hin k hk, Option.bind_some, if_pos rfl, laws_eqIntS_f p (by omega) k (by omega)]
 rfl

/-- A test at d places from i on. -/
def allB (p : Nat → Bool) : Nat → Nat → Bool
 | _, 0 => true
 | i, d + 1 => p i && allB p (i + 1) d
theorem allB_iff (p : Nat → Bool) (d : Nat) : ∀ i, allB p i d = true ↔ ∀ j, i ≤ j → j < i + d → p j = true := by
 induction d with
 | zero => intro i; exact ⟨fun _ j h1 h2 => by omega, fun _ => rfl⟩
 | succ d ih =>
  intro i
  simp only [allB, Bool.and_eq_true, ih (i + 1)]
  constructor
  ·intro h j h1 h2
   by_cases e : j = i
   ·subst e; exact h.1
   ·exact h.2 j (by omega) (by omega)
  ·intro h
   exact ⟨h i (Nat.le_refl _) (by omega), fun j h1 h2 => h j (by omega) (by omega)⟩
/-- A node is right, its kids below a number. -/
def enOK (x : S114) (k : Nat) : Bool := (Tree.numOK x.f0 x.f1 && ((x.f2.length : Int) == Tree.arity x.f0)) && x.f2.all fun c => decide (0 ≤ c ∧ c < (k : Int))
def loose (l : List S114) : Bool := allB (fun i => enOK (l.getD i z114) i) 0 l.length && decide (l.length ≤ 120)
theorem rdE_getD (l : List S114) (i : Nat) : rd_T114 l (i : Int) = l.getD i z114 := by unfold rd_T114; rw [Int.toNat_natCast]
theorem outB_eq (kids : List Int) (k : Nat) (hk : k ≤ 1048576) : (!outB kids (k : Int)) = kids.all fun c => decide (0 ≤ c ∧ c < (k : Int)) := by
 unfold outB
 have e : wrap64 ((k : Int) - 1) = (k : Int) - 1 := by unfold wrap64; omega
 rw [e]
 induction kids with
 | nil => rfl
 | cons x t ih =>
  rw [List.any_cons, List.all_cons, ← ih, Bool.not_or, Bool.not_not]
  congr 1
  rw [decide_eq_decide]; omega
theorem enodeOK_f (x : S114) (k : Nat) (hk : k ≤ 1048576) : impl_enodeOK.f x.f0 x.f1 x.f2 (k : Int) = some (enOK x k) := by
 unfold impl_enodeOK.f enOK
 rw [outB_eq _ k hk, Bool.and_assoc]
theorem looseOK_run (l : List S114) (hl : l.length ≤ 1048576) (d : Nat) : ∀ (k i : Nat), i + d = l.length → d < k →
  impl_looseOK.l0 k l l (l.length : Int) (i : Int) = some (allB (fun i => enOK (l.getD i z114) i) i d && decide (l.length ≤ 120)) := by
 induction d with
 | zero =>
  intro k i hi hk
  obtain ⟨k, rfl⟩ : ∃ m, k = m + 1 := ⟨k - 1, by omega⟩
  simp only [impl_looseOK.l0, allB]
  rw [if_neg (by omega), Bool.true_and]
  congr 1
  rw [decide_eq_decide]; omega
 | succ d ih =>
  intro k i hi hk
  obtain ⟨k, rfl⟩ : ∃ m, k = m + 1 := ⟨k - 1, by omega⟩
  simp only [impl_looseOK.l0, allB]
  rw [if_pos (by omega), if_pos (by omega), if_pos (by omega), rdE_getD, enodeOK_f _ i (by omega), Option.bind_some, w64s i (by omega), ih k (i + 1) (by omega) (by omega)]
  cases enOK (l.getD i z114) i <;> rfl
theorem looseOK_f (l : List S114) (hl : l.length ≤ 1048576) (k : Nat) (hk : l.length < k) : impl_looseOK.f k l = some (loose l) := by
 unfold impl_looseOK.f loose
 exact looseOK_run l hl l.length k 0 (by omega) hk
theorem specArity_f (k : Nat) (hk : 0 < k) (op : Int) : spec_l1Arity.f k op = some (if 1 ≤ op ∧ op ≤ 11 then Tree.arity op else -1) := by
 obtain ⟨k, rfl⟩ : ∃ m, k = m + 1 := ⟨k - 1, by omega⟩
 unfold spec_l1Arity.f Tree.arity
 by_cases h1 : op = 1
 ·subst h1; rfl
 ·rw [if_neg h1]
  by_cases h2 : op = 2
  ·subst h2; rfl
  ·rw [if_neg (by omega : ¬ (op = 1 ∨ op = 2))]
   simp only [spec_l1Arity.j0]
   rw [if_neg (by simpa using h2)]
   by_cases h3 : op = 3
   ·subst h3; rfl
   ·rw [if_neg h3, if_neg h3]
    by_cases h4 : op = 11
    ·subst h4; rfl
    ·rw [if_neg h4, if_neg h4]
     unfold spec_l1In.f
     by_cases h5 : op ≥ 4
     ·by_cases h6 : op ≤ 10
      ·rw [if_pos h5, Option.bind_some, decide_eq_true h6, if_pos rfl, if_pos (by omega)]
      ·rw [if_pos h5, Option.bind_some, decide_eq_false h6, if_neg (by simp), if_neg (by omega)]
     ·rw [if_neg h5, Option.bind_some, if_neg (by simp), if_neg (by omega)]
theorem l6Node_f (op n : Int) (kids : List Int) (k : Nat) (hk : 0 < k) : spec_l6Node.f k op n kids = some (Tree.numOK op n && ((kids.length : Int) == Tree.arity op)) := by
 unfold spec_l6Node.f
 rw [specArity_f k hk, Option.bind_some]
 obtain ⟨k, rfl⟩ : ∃ m, k = m + 1 := ⟨k - 1, by omega⟩
 have hr := Tree.arity_range op
 by_cases hop : 1 ≤ op ∧ op ≤ 11
 ·rw [if_pos hop, if_neg (by omega)]
  simp only [spec_l6Node.j0]
  by_cases hl : (kids.length : Int) = Tree.arity op
  ·rw [bne_eq_false_iff_eq.2 hl, if_neg (by simp), beq_iff_eq.2 hl, Bool.and_true]
   unfold Tree.numOK
   by_cases h1 : op = 1
   ·rw [if_pos h1, if_pos h1]
   ·rw [if_neg h1, if_neg h1]
    by_cases h2 : op = 2
    ·rw [if_pos h2, if_pos h2]
     by_cases h3 : n ≥ 0
     ·rw [if_pos h3]; congr 1; rw [decide_eq_decide]; omega
     ·rw [if_neg h3, decide_eq_false (by omega)]
    ·rw [if_neg h2, if_neg h2]
     congr 1
     rw [Bool.eq_iff_iff]; simp; omega
  ·rw [bne_iff_ne.2 hl, if_pos rfl, beq_eq_false_iff_ne.2 hl, Bool.and_false]
 ·rw [if_neg hop, if_pos (by omega)]
  simp only [spec_l6Node.j0]
  rw [if_pos trivial]
  unfold Tree.numOK
  rw [if_neg (by omega), if_neg (by omega), decide_eq_false (by omega), Bool.false_and]
theorem l1In_f (a b c : Int) : spec_l1In.f a b c = some (decide (b ≤ a ∧ a ≤ c)) := by
 unfold spec_l1In.f
 by_cases h : a ≥ b
 ·rw [if_pos h]; congr 1; rw [decide_eq_decide]; omega
 ·rw [if_neg h, decide_eq_false (by omega)]
theorem l1All_run (l : List Int) (lo hi : Int) (hl : l.length ≤ 1048576) (d : Nat) : ∀ (k i : Nat), i + d = l.length → d < k → spec_l1All.l0 k lo hi l (l.length : Int) (i : Int) = some ((l.drop i).all fun c => decide (lo ≤ c ∧ c ≤ hi)) := by
 induction d with
 | zero =>
  intro k i hi' hk
  obtain ⟨k, rfl⟩ : ∃ m, k = m + 1 := ⟨k - 1, by omega⟩
  simp only [spec_l1All.l0]
  rw [if_neg (by omega), List.drop_of_length_le (by omega)]
  rfl
 | succ d ih =>
  intro k i hi' hk
  obtain ⟨k, rfl⟩ : ∃ m, k = m + 1 := ⟨k - 1, by omega⟩
  have hil : i < l.length := by omega
  simp only [spec_l1All.l0]
  rw [if_pos (by omega), if_pos (by omega), if_pos (by omega), l1In_f, Option.bind_some, w64s i (by omega), ih k (i + 1) (by omega) (by omega), List.drop_eq_getElem_cons hil, List.all_cons, rd_nat, getD_lt l i hil]
  cases decide (lo ≤ l[i] ∧ l[i] ≤ hi) <;> rfl
theorem l1All_f (l : List Int) (lo hi : Int) (hl : l.length ≤ 1048576) (k : Nat) (hk : l.length < k) : spec_l1All.f k l lo hi = some (l.all fun c => decide (lo ≤ c ∧ c ≤ hi)) := by
 unfold spec_l1All.f
 have := l1All_run l lo hi hl l.length k 0 (by omega) hk
 rw [List.drop_zero] at this
 exact this
theorem l6Nodes_run (l : List S114) (hl : l.length ≤ 1048576) (hin : ∀ x ∈ l, x.f2.length ≤ 1048576) (d : Nat) : ∀ (k i : Nat), i + d = l.length → d + 1048577 < k →
  spec_l6Nodes.l0 k l (l.length : Int) (i : Int) = some (allB (fun i => enOK (l.getD i z114) i) i d) := by
 induction d with
 | zero =>
  intro k i hi hk
  obtain ⟨k, rfl⟩ : ∃ m, k = m + 1 := ⟨k - 1, by omega⟩
  simp only [spec_l6Nodes.l0, allB]
  rw [if_neg (by omega)]
 | succ d ih =>
  intro k i hi hk
  obtain ⟨k, rfl⟩ : ∃ m, k = m + 1 := ⟨k - 1, by omega⟩
  have hil : i < l.length := by omega
  have hx : (l.getD i z114).f2.length ≤ 1048576 := by
   rw [List.getD_eq_getElem?_getD, List.getElem?_eq_getElem hil]
   exact hin _ (List.getElem_mem hil)
  have e : wrap64 ((i : Int) - 1) = (i : Int) - 1 := by unfold wrap64; omega
  simp only [spec_l6Nodes.l0, allB]
  rw [if_pos (by omega), if_pos (by omega), if_pos (by omega), rdE_getD, l6Node_f _ _ _ k (by omega), Option.bind_some, w64s i (by omega), ih k (i + 1) (by omega) (by omega), e, l1All_f _ _ _ hx k (by omega)]
  have e2 : (fun c : Int => decide (0 ≤ c ∧ c ≤ (i : Int) - 1)) = fun c => decide (0 ≤ c ∧ c < (i : Int)) := by
   funext c; rw [decide_eq_decide]; omega
  rw [e2]
  unfold enOK
  generalize l.getD i z114 = x
  cases (Tree.numOK x.f0 x.f1 && ((x.f2.length : Int) == Tree.arity x.f0)) with
  | false => rfl
  | true =>
   rw [if_pos rfl, Option.bind_some]
   cases (x.f2.all fun c => decide (0 ≤ c ∧ c < (i : Int))) <;> rfl
theorem l6Nodes_f (l : List S114) (hl : l.length ≤ 1048576) (hin : ∀ x ∈ l, x.f2.length ≤ 1048576) (k : Nat) (hk : 2097160 < k) : spec_l6Nodes.f k l = some (loose l) := by
 unfold spec_l6Nodes.f loose
 by_cases h : (l.length : Int) > 120
 ·rw [if_pos h, decide_eq_false (by omega), Bool.and_false]
 ·rw [if_neg h, decide_eq_true (by omega), Bool.and_true]
  exact l6Nodes_run l hl hin l.length k 0 (by omega) (by omega)
theorem loose_at {l : List S114} (h : loose l = true) (i : Nat) (hi : i < l.length) : enOK (l.getD i z114) i = true := by
 unfold loose at h
 rw [Bool.and_eq_true, allB_iff] at h
 exact h.1 i (Nat.zero_le _) (by omega)
theorem loose_len {l : List S114} (h : loose l = true) : l.length ≤ 120 := by
 unfold loose at h
 rw [Bool.and_eq_true] at h
 exact of_decide_eq_true h.2
theorem enOK_kids {x : S114} {k : Nat} (h : enOK x k = true) : x.f2.length ≤ 3 ∧ ∀ c ∈ x.f2, 0 ≤ c ∧ c < (k : Int) := by
 unfold enOK at h
 simp only [Bool.and_eq_true, beq_iff_eq, List.all_eq_true, decide_eq_true_eq] at h
 have := Tree.arity_range x.f0
 exact ⟨by omega, h.2⟩
/-- Two nodes are the same. -/
def sameE (x y : S114) : Bool := (x.f0 == y.f0 && x.f1 == y.f1) && x.f2 == y.f2
theorem l1Same_run (a b : List Int) (hab : a.length = b.length) (hl : a.length ≤ 1048576) (d : Nat) : ∀ (k i : Nat), i + d = a.length → d < k → spec_l1Same.l0 k a b (a.length : Int) (i : Int) = some (a.drop i == b.drop i) := by
 induction d with
 | zero =>
  intro k i hi hk
  obtain ⟨k, rfl⟩ : ∃ m, k = m + 1 := ⟨k - 1, by omega⟩
  simp only [spec_l1Same.l0]
  rw [if_neg (by omega), List.drop_of_length_le (by omega), List.drop_of_length_le (by omega)]
  rfl
 | succ d ih =>
  intro k i hi hk
  obtain ⟨k, rfl⟩ : ∃ m, k = m + 1 := ⟨k - 1, by omega⟩
  have ha : i < a.length := by omega
  have hb : i < b.length := by omega
  simp only [spec_l1Same.l0]
  rw [if_pos (by omega), if_pos (by omega), if_pos (by omega), if_pos (by omega), rd_nat, rd_nat, getD_lt a i ha, getD_lt b i hb, w64s i (by omega), ih k (i + 1) (by omega) (by omega), List.drop_eq_getElem_cons ha, List.drop_eq_getElem_cons hb]
  by_cases h : a[i] = b[i]
  ·rw [if_pos h, h]; congr 1; rw [Bool.eq_iff_iff, beq_iff_eq, beq_iff_eq]; exact ⟨fun e => by rw [e], fun e => (List.cons.inj e).2⟩
  ·rw [if_neg h]; congr 1; symm; rw [beq_eq_false_iff_ne]; intro e; exact h (List.cons.inj e).1
theorem l1Same_f (a b : List Int) (hl : a.length ≤ 1048576) (k : Nat) (hk : a.length < k) : spec_l1Same.f k a b = some (a == b) := by
 unfold spec_l1Same.f
 by_cases h : a.length = b.length
 ·rw [if_pos (by omega)]
  have := l1Same_run a b h hl a.length k 0 (by omega) hk
  rw [List.drop_zero, List.drop_zero] at this
  exact this
 ·rw [if_neg (by omega)]; congr 1; symm; rw [beq_eq_false_iff_ne]; intro e; exact h (by rw [e])
theorem Equal_eq : ∀ (k : Nat) (a b : List Int) (c d : Int), slices_Equal_int_int.l0 k a b c d = spec_l1Same.l0 k a b c d := by
 intro k
 induction k with
 | zero => intros; rfl
 | succ k ih => intro a b c d; simp only [slices_Equal_int_int.l0, spec_l1Same.l0, ih]
theorem Equal_f (a b : List Int) (hl : a.length ≤ 1048576) (k : Nat) (hk : a.length < k) : slices_Equal_int_int.f k a b = some (a == b) := by
 have := l1Same_f a b hl k hk
 unfold spec_l1Same.f at this
 unfold slices_Equal_int_int.f
 rw [Equal_eq]
 exact this
theorem specAlike_f (x y : S114) (hl : x.f2.length ≤ 1048576) (k : Nat) (hk : x.f2.length < k) : spec_l6Alike.f k x.f0 x.f1 x.f2 y.f0 y.f1 y.f2 = some (sameE x y) := by
 unfold spec_l6Alike.f sameE
 rw [l1Same_f _ _ hl k hk]
 by_cases h0 : x.f0 = y.f0
 ·rw [if_pos h0, beq_iff_eq.2 h0]
  by_cases h1 : x.f1 = y.f1
  ·rw [if_pos h1, beq_iff_eq.2 h1]; rfl
  ·rw [if_neg h1, beq_eq_false_iff_ne.2 h1]; rfl
 ·rw [if_neg h0, beq_eq_false_iff_ne.2 h0]; rfl
theorem implAlike_f (x y : S114) (hl : x.f2.length ≤ 1048576) (k : Nat) (hk : x.f2.length < k) : impl_alike.f k x.f0 x.f1 x.f2 y.f0 y.f1 y.f2 = some (sameE x y) := by
 unfold impl_alike.f sameE
 rw [Equal_f _ _ hl k hk]
 by_cases h0 : x.f0 = y.f0
 ·rw [if_pos h0, beq_iff_eq.2 h0]
  by_cases h1 : x.f1 = y.f1
  ·rw [if_pos h1, beq_iff_eq.2 h1]; rfl
  ·rw [if_neg h1, beq_eq_false_iff_ne.2 h1]; rfl
 ·rw [if_neg h0, beq_eq_false_iff_ne.2 h0]; rfl
/-- What a graph must obey at a node. -/
def pairOK (nodes : List S114) (parts : List Int) (j i : Nat) : Bool := !(sameE (nodes.getD j z114) (nodes.getD i z114)) || (parts.getD i 0 == parts.getD j 0)
def bodyOK (nodes : List S114) (parts : List Int) (j : Nat) : Bool := ((nodes.getD j z114).f2.all fun c => rd parts c == c) && allB (pairOK nodes parts j) 0 j
def goodG (nodes : List S114) (parts : List Int) : Bool := ((decide (parts.length = nodes.length) && loose nodes) && okParts parts) && allB (bodyOK nodes parts) 0 nodes.length
theorem specGG_l2 (nodes : List S114) (parts : List Int) (hlen : parts.length = nodes.length) (hn : nodes.length ≤ 120) (j : Nat) (hj : j < nodes.length) (x : S114) (hxj : nodes.getD j z114 = x) (hx : x.f2.length ≤ 3) (d : Nat) : ∀ (k i : Nat), i + d = j → 3 < k →
  spec_GoodGraph.l2 (k + d + 1) (j : Int) (i : Int) nodes (nodes.length : Int) (j : Int) nodes parts x.f0 x.f1 x.f2 = if allB (pairOK nodes parts j) i d = true then spec_GoodGraph.l0 k nodes (nodes.length : Int) ((j + 1 : Nat) : Int) nodes parts else some false := by
 induction d with
 | zero =>
  intro k i hi hk
  simp only [spec_GoodGraph.l2, allB]
  rw [if_neg (by omega), if_pos trivial, w64s j (by omega)]
 | succ d ih =>
  intro k i hi hk
  obtain ⟨K, hK⟩ : ∃ K, K = k + d + 1 := ⟨_, rfl⟩
  rw [show k + (d + 1) + 1 = K + 1 by omega]
  have ihh := ih k (i + 1) (by omega) hk
  rw [← hK] at ihh
  simp only [spec_GoodGraph.l2]
  rw [if_pos (by omega), if_pos (by omega), if_pos (by omega), rdE_getD, specAlike_f x _ (by omega) K (by omega), Option.bind_some, w64s i (by omega), ihh, rd_nat, rd_nat]
  have hp : pairOK nodes parts j i = (!(sameE x (nodes.getD i z114)) || (parts.getD i 0 == parts.getD j 0)) := by unfold pairOK; rw [hxj]
  have hab : allB (pairOK nodes parts j) i (d + 1) = (pairOK nodes parts j i && allB (pairOK nodes parts j) (i + 1) d) := rfl
  rw [hab, hp]
  cases sameE x (nodes.getD i z114) with
  | false => rw [if_neg (by simp)]; simp
  | true =>
   rw [if_pos rfl, if_pos (by omega), if_pos (by omega), if_pos (by omega)]
   by_cases h : parts.getD i 0 = parts.getD j 0
   ·rw [if_pos h, beq_iff_eq.2 h]; simp
   ·rw [if_neg h, beq_eq_false_iff_ne.2 h]; simp
theorem specGG_l1 (nodes : List S114) (parts : List Int) (j : Nat) (kids : List Int) (hkl : kids.length ≤ 3) (hin : ∀ c ∈ kids, 0 ≤ c ∧ c < (parts.length : Int)) (a b : Int) (d : Nat) : ∀ (k i : Nat), i + d = kids.length →
  spec_GoodGraph.l1 (k + d + 1) (j : Int) nodes (nodes.length : Int) (j : Int) kids (kids.length : Int) (i : Int) nodes parts a b kids = if ((kids.drop i).all fun c => rd parts c == c) = true then spec_GoodGraph.l2 k (j : Int) 0 nodes (nodes.length : Int) (j : Int) nodes parts a b kids else some false := by
 induction d with
 | zero =>
  intro k i hi
  simp only [spec_GoodGraph.l1]
  rw [if_neg (by omega), List.drop_of_length_le (by omega)]
  rfl
 | succ d ih =>
  intro k i hi
  have hil : i < kids.length := by omega
  have hc := hin _ (List.getElem_mem hil)
  obtain ⟨K, hK⟩ : ∃ K, K = k + d + 1 := ⟨_, rfl⟩
  rw [show k + (d + 1) + 1 = K + 1 by omega]
  have ihh := ih k (i + 1) (by omega)
  rw [← hK] at ihh
  simp only [spec_GoodGraph.l1]
  rw [if_pos (by omega), if_pos (by omega), if_pos (by omega), rd_nat, getD_lt kids i hil, if_pos hc.1, if_pos hc.2, w64s i (by omega), ihh, List.drop_eq_getElem_cons hil, List.all_cons]
  by_cases h : rd parts kids[i] = kids[i]
  ·rw [if_pos h, beq_iff_eq.2 h, Bool.true_and]
  ·rw [if_neg h, beq_eq_false_iff_ne.2 h, Bool.false_and]; rfl
theorem specGG_l0 (nodes : List S114) (parts : List Int) (hlen : parts.length = nodes.length) (hlo : loose nodes = true) (d : Nat) : ∀ (k i : Nat), i + d = nodes.length → 140 * d + 140 ≤ k →
  spec_GoodGraph.l0 k nodes (nodes.length : Int) (i : Int) nodes parts = some (allB (bodyOK nodes parts) i d) := by
 have hn := loose_len hlo
 induction d with
 | zero =>
  intro k i hi hk
  obtain ⟨k, rfl⟩ : ∃ m, k = m + 1 := ⟨k - 1, by omega⟩
  simp only [spec_GoodGraph.l0, allB]
  rw [if_neg (by omega)]
 | succ d ih =>
  intro k i hi hk
  have hil : i < nodes.length := by omega
  have hx := enOK_kids (loose_at hlo i hil)
  obtain ⟨x, hxe⟩ : ∃ x, nodes.getD i z114 = x := ⟨_, rfl⟩
  rw [hxe] at hx
  obtain ⟨k, rfl⟩ : ∃ m, k = ((m + i + 1) + x.f2.length + 1) + 1 := ⟨k - i - x.f2.length - 3, by omega⟩
  simp only [spec_GoodGraph.l0, allB]
  have h2 := specGG_l2 nodes parts hlen hn i hil x hxe hx.1 i k 0 (by omega) (by omega)
  rw [if_pos (by omega), if_pos (by omega), if_pos (by omega), rdE_getD, hxe]
  have h1 := specGG_l1 nodes parts i x.f2 hx.1 (fun c hc => by have := hx.2 c hc; omega) x.f0 x.f1 x.f2.length (k + i + 1) 0 (by omega)
  rw [List.drop_zero] at h1
  refine h1.trans ?_
  have hb : bodyOK nodes parts i = ((x.f2.all fun c => rd parts c == c) && allB (pairOK nodes parts i) 0 i) := by unfold bodyOK; rw [hxe]
  rw [hb]
  cases (x.f2.all fun c => rd parts c == c) with
  | false => rfl
  | true =>
   rw [if_pos rfl, Bool.true_and]
   refine h2.trans ?_
   cases allB (pairOK nodes parts i) 0 i with
   | false => rfl
   | true => rw [if_pos rfl, Bool.true_and]; exact ih k (i + 1) (by omega) (by omega)
theorem specGG_f (nodes : List S114) (parts : List Int) (hl : nodes.length ≤ 1048576) (hin : ∀ x ∈ nodes, x.f2.length ≤ 1048576) (hp : parts.length ≤ 1048576) (k : Nat) (hk : 2097161 < k) : spec_GoodGraph.f k nodes parts = some (goodG nodes parts) := by
 obtain ⟨k, rfl⟩ : ∃ m, k = m + 1 := ⟨k - 1, by omega⟩
 unfold spec_GoodGraph.f goodG
 rw [l6Nodes_f nodes hl hin (k + 1) (by omega), Option.bind_some]
 cases hlo : loose nodes with
 | false =>
  rw [if_neg (by simp), Bool.and_false, Bool.false_and, Bool.false_and]
  simp [spec_GoodGraph.j0]
 | true =>
  rw [if_pos rfl, Bool.and_true]
  by_cases hlen : parts.length = nodes.length
  ·rw [if_pos (by omega), decide_eq_true hlen, Bool.true_and, spec_GoodParts_f parts (k + 1) (by omega), Option.bind_some]
   simp only [spec_GoodGraph.j0]
   cases okParts parts with
   | false => rfl
   | true =>
    have hn := loose_len hlo
    rw [if_neg (by simp), Bool.true_and]
    exact specGG_l0 nodes parts hlen hlo nodes.length k 0 (by omega) (by omega)
  ·rw [if_neg (by omega), decide_eq_false hlen, Bool.false_and, Bool.false_and]
   simp [spec_GoodGraph.j0]
theorem VGG_f (kids parts : List Int) (hin : ∀ c ∈ kids, 0 ≤ c ∧ c < (parts.length : Int)) : VGG.f kids parts = some (!(kids.all fun c => rd parts c == c)) := by
 unfold VGG.f
 rw [if_pos (List.all_eq_true.2 fun c hc => decide_eq_true (hin c hc))]
 congr 1
 clear hin
 induction kids with
 | nil => rfl
 | cons c t ih => rw [List.any_cons, List.all_cons, ih, Bool.not_and]; rfl
theorem implGG_l1 (nodes : List S114) (parts : List Int) (hlen : parts.length = nodes.length) (hn : nodes.length ≤ 120) (j : Nat) (hj : j < nodes.length) (x : S114) (hxj : nodes.getD j z114 = x) (hx : x.f2.length ≤ 3) (d : Nat) : ∀ (k i : Nat), i + d = j → 3 < k →
  impl_GoodGraph.l1 (k + d + 1) (j : Int) nodes (nodes.length : Int) (j : Int) (nodes.take j) ((nodes.take j).length : Int) (i : Int) nodes parts x.f0 x.f1 x.f2 = if allB (pairOK nodes parts j) i d = true then impl_GoodGraph.l0 k nodes (nodes.length : Int) ((j + 1 : Nat) : Int) nodes parts else some false := by
 have htl : (nodes.take j).length = j := by rw [List.length_take]; omega
 induction d with
 | zero =>
  intro k i hi hk
  simp only [impl_GoodGraph.l1, allB]
  rw [if_neg (by omega), if_pos trivial, w64s j (by omega)]
 | succ d ih =>
  intro k i hi hk
  obtain ⟨K, hK⟩ : ∃ K, K = k + d + 1 := ⟨_, rfl⟩
  rw [show k + (d + 1) + 1 = K + 1 by omega]
  have ihh := ih k (i + 1) (by omega) hk
  rw [← hK] at ihh
  have htk : (nodes.take j).getD i z114 = nodes.getD i z114 := by
   rw [List.getD_eq_getElem?_getD, List.getD_eq_getElem?_getD, List.getElem?_take, if_pos (by omega)]
  simp only [impl_GoodGraph.l1]
  rw [if_pos (by omega), if_pos (by omega), if_pos (by omega), if_pos (by omega), if_pos (by omega), if_pos (by omega), rdE_getD, htk, implAlike_f x _ (by omega) K (by omega), Option.bind_some, w64s i (by omega), ihh, rd_nat, rd_nat]
  have hp : pairOK nodes parts j i = (!(sameE x (nodes.getD i z114)) || (parts.getD i 0 == parts.getD j 0)) := by unfold pairOK; rw [hxj]
  have hab : allB (pairOK nodes parts j) i (d + 1) = (pairOK nodes parts j i && allB (pairOK nodes parts j) (i + 1) d) := rfl
  rw [hab, hp]
  by_cases h : parts.getD i 0 = parts.getD j 0
  ·rw [if_pos h, beq_iff_eq.2 h]; simp
  ·rw [if_neg h, beq_eq_false_iff_ne.2 h]
   cases sameE x (nodes.getD i z114) <;> simp
theorem implGG_l0 (nodes : List S114) (parts : List Int) (hlen : parts.length = nodes.length) (hlo : loose nodes = true) (d : Nat) : ∀ (k i : Nat), i + d = nodes.length → 140 * d + 140 ≤ k →
  impl_GoodGraph.l0 k nodes (nodes.length : Int) (i : Int) nodes parts = some (allB (bodyOK nodes parts) i d) := by
 have hn := loose_len hlo
 induction d with
 | zero =>
  intro k i hi hk
  obtain ⟨k, rfl⟩ : ∃ m, k = m + 1 := ⟨k - 1, by omega⟩
  simp only [impl_GoodGraph.l0, allB]
  rw [if_neg (by omega)]
 | succ d ih =>
  intro k i hi hk
  have hil : i < nodes.length := by omega
  have hx := enOK_kids (loose_at hlo i hil)
  obtain ⟨x, hxe⟩ : ∃ x, nodes.getD i z114 = x := ⟨_, rfl⟩
  rw [hxe] at hx
  obtain ⟨k, rfl⟩ : ∃ m, k = (m + i + 1) + 1 := ⟨k - i - 2, by omega⟩
  simp only [impl_GoodGraph.l0, allB]
  have h2 := implGG_l1 nodes parts hlen hn i hil x hxe hx.1 i k 0 (by omega) (by omega)
  rw [if_pos (by omega), if_pos (by omega), if_pos (by omega), rdE_getD, hxe, VGG_f x.f2 parts (fun c hc => by have := hx.2 c hc; omega), Option.bind_some]
  have hb : bodyOK nodes parts i = ((x.f2.all fun c => rd parts c == c) && allB (pairOK nodes parts i) 0 i) := by unfold bodyOK; rw [hxe]
  rw [hb]
  cases (x.f2.all fun c => rd parts c == c) with
  | false => rfl
  | true =>
   rw [if_neg (by simp), if_pos (by omega), Option.bind_some, Bool.true_and, Int.toNat_natCast]
   refine h2.trans ?_
   cases allB (pairOK nodes parts i) 0 i with
   | false => rfl
   | true => rw [if_pos rfl, Bool.true_and]; exact ih k (i + 1) (by omega) (by omega)
theorem implGG_f (nodes : List S114) (parts : List Int) (hl : nodes.length ≤ 1048576) (hp : parts.length ≤ 1048576) (k : Nat) (hk : 2097161 < k) : impl_GoodGraph.f k nodes parts = some (goodG nodes parts) := by
 obtain ⟨k, rfl⟩ : ∃ m, k = m + 1 := ⟨k - 1, by omega⟩
 unfold impl_GoodGraph.f goodG
 by_cases hlen : parts.length = nodes.length
 ·rw [if_pos (by omega), decide_eq_true hlen, Bool.true_and, looseOK_f nodes hl (k + 1) (by omega), Option.bind_some]
  cases hlo : loose nodes with
  | false =>
   rw [if_neg (by simp), Bool.false_and, Bool.false_and]
   simp [impl_GoodGraph.j0]
  | true =>
   rw [if_pos rfl, Bool.true_and, impl_GoodParts_f parts (by omega) (k + 1) (by omega), Option.bind_some]
   simp only [impl_GoodGraph.j0]
   cases okParts parts with
   | false => rfl
   | true =>
    have hn := loose_len hlo
    rw [if_neg (by simp), Bool.true_and]
    exact implGG_l0 nodes parts hlen hlo nodes.length k 0 (by omega) (by omega)
 ·rw [if_neg (by omega), decide_eq_false hlen, Bool.false_and, Bool.false_and, Bool.false_and]
  simp [impl_GoodGraph.j0]

theorem gg_len {n : List S114} {p : List Int} (h : goodG n p = true) : p.length = n.length ∧ n.length ≤ 120 := by
 unfold goodG at h
 simp only [Bool.and_eq_true, decide_eq_true_eq] at h
 exact ⟨h.1.1.1, loose_len h.1.1.2⟩
theorem gg_kids {n : List S114} {p : List Int} (h : goodG n p = true) (k : Nat) (hk : k < n.length) : (n.getD k z114).f2.length ≤ 3 ∧ ∀ c ∈ (n.getD k z114).f2, 0 ≤ c ∧ c < (k : Int) ∧ rd p c = c := by
 unfold goodG at h
 simp only [Bool.and_eq_true, decide_eq_true_eq] at h
 have h1 := enOK_kids (loose_at h.1.1.2 k hk)
 have h2 := (allB_iff _ _ _).1 h.2 k (Nat.zero_le _) (by omega)
 unfold bodyOK at h2
 rw [Bool.and_eq_true] at h2
 exact ⟨h1.1, fun c hc => ⟨(h1.2 c hc).1, (h1.2 c hc).2, beq_iff_eq.1 (List.all_eq_true.1 h2.1 c hc)⟩⟩
theorem gg_par {n : List S114} {p : List Int} (h : goodG n p = true) (k : Nat) (hk : k < n.length) : goodAt p k := by
 have hl := (gg_len h).1
 unfold goodG at h
 simp only [Bool.and_eq_true, decide_eq_true_eq] at h
 exact (of_decide_eq_true h.1.2).1 k (by omega)

theorem toP_get (t : List S96) (i : Nat) (x : Int × Int) (h : (toP t)[i]? = some x) : i < t.length ∧ (rd_T96 t (i : Int)).f0 = x.1 ∧ (rd_T96 t (i : Int)).f1 = x.2 := by
 unfold toP at h
 rw [List.getElem?_map] at h
 cases hi : t[i]? with
 | none => rw [hi] at h; exact absurd h (by simp)
 | some y =>
  rw [hi] at h
  injection h with h
  obtain ⟨hl, e⟩ := List.getElem?_eq_some_iff.1 hi
  rw [rdN_nat, List.getD_eq_getElem?_getD, hi]
  subst h
  exact ⟨hl, rfl, rfl⟩
/-- The node at the end of a tree's nodes. -/
theorem rd_flat (t : List S96) (pre post : List (Int × Int)) (T : Tree.Tr) (h : toP t = pre ++ T.flat ++ post) (i : Nat) (hi : i + 1 = pre.length + T.flat.length) : i < t.length ∧ (rd_T96 t (i : Int)).f0 = T.op ∧ (rd_T96 t (i : Int)).f1 = T.n := by
 refine toP_get t i (T.op, T.n) ?_
 rw [Tree.flat_eq, List.length_append, List.length_singleton] at hi
 rw [h, Tree.flat_eq, List.append_assoc, List.append_assoc, List.getElem?_append_right (by omega), List.getElem?_append_right (by omega)]
 have e : i - pre.length - (Tree.flats T.kids).length = 0 := by omega
 rw [e]
 rfl
theorem arity_good (k : Nat) (hk : 0 < k) {T : Tree.Tr} (hg : Tree.Good T) : spec_l1Arity.f k T.op = some (T.kids.length : Int) := by
 rw [specArity_f k hk, if_pos (Tree.numOK_op hg.num), hg.arity]
theorem from_f (t : List S96) (hn : t.length ≤ 1048576) : ∀ (n : Nat) (T : Tree.Tr), T.flat.length ≤ n → Tree.Good T → ∀ (pre post : List (Int × Int)), toP t = pre ++ T.flat ++ post → ∀ (i : Nat), i + 1 = pre.length + T.flat.length → ∀ (k : Nat), 2 * T.flat.length + 1 ≤ k →
  spec_l2From.f k t (i : Int) = some (pre.length : Int) := by
 intro n
 induction n with
 | zero => intro T h; have := Tree.flat_pos T; omega
 | succ n ih =>
  intro T hsz hg pre post h i hi k hk
  obtain ⟨hil, ho, -⟩ := rd_flat t pre post T h i hi
  have hf : T.flat.length = (Tree.flats T.kids).length + 1 := by rw [Tree.flat_eq]; simp
  obtain ⟨k, rfl⟩ : ∃ m, k = m + 1 := ⟨k - 1, by omega⟩
  unfold spec_l2From.f
  rw [if_pos (by omega), if_pos (by omega), ho, arity_good k (by omega) hg, Option.bind_some]
  have loop : ∀ (j : Nat), j ≤ T.kids.length → ∀ (post' : List (Int × Int)), toP t = pre ++ Tree.flats (T.kids.take j) ++ post' → ∀ (k : Nat), 2 * (Tree.flats (T.kids.take j)).length + 2 ≤ k →
    spec_l2From.l0 k t ((pre.length + (Tree.flats (T.kids.take j)).length : Nat) : Int) (j : Int) = some (pre.length : Int) := by
   intro j
   induction j with
   | zero =>
    intro _ post' _ k hk
    obtain ⟨k, rfl⟩ : ∃ m, k = m + 1 := ⟨k - 1, by omega⟩
    unfold spec_l2From.l0
    rw [if_neg (by omega)]
    simp [Tree.flats]
   | succ j ihj =>
    intro hj post' hp k hk
    obtain ⟨k, rfl⟩ : ∃ m, k = m + 1 := ⟨k - 1, by omega⟩
    have hj' : j < T.kids.length := by omega
    have hK : T.kids[j]? = some T.kids[j] := List.getElem?_eq_getElem hj'
    have hKg : Tree.Good T.kids[j] := hg.kids _ (List.getElem_mem hj')
    have hKs := Tree.flats_len_mem (List.getElem_mem hj')
    generalize T.kids[j] = K at hK hKg hKs
    have hK1 := Tree.flat_pos K
    have hsucc := Tree.flats_take_succ T.kids j hK
    have hle := Tree.flats_take_le T.kids (j + 1)
    have hsplit : Tree.flats (T.kids.take (j + 1)) = Tree.flats (T.kids.take j) ++ K.flat := by
     obtain ⟨hi', e⟩ := List.getElem?_eq_some_iff.1 hK
     rw [List.take_succ_eq_append_getElem hi', Tree.flats_append, e]
     simp [Tree.flats]
    rw [hsplit] at hp
    have hp1 : toP t = (pre ++ Tree.flats (T.kids.take j)) ++ K.flat ++ post' := by rw [hp]; simp
    have hp2 : toP t = pre ++ Tree.flats (T.kids.take j) ++ (K.flat ++ post') := by rw [hp]; simp
    have hlen : pre.length + T.flat.length ≤ t.length := by
     have := congrArg List.length h
     rw [toP_len, List.length_append, List.length_append] at this
     omega
    unfold spec_l2From.l0
    have e1 : wrap64 (((pre.length + (Tree.flats (T.kids.take (j + 1))).length : Nat) : Int) - 1) = ((pre.length + (Tree.flats (T.kids.take j)).length + K.flat.length - 1 : Nat) : Int) := by unfold wrap64; omega
    have e2 : wrap64 (((j + 1 : Nat) : Int) - 1) = (j : Int) := by unfold wrap64; have := Tree.flats_ge T.kids; omega
    rw [if_pos (by omega), e1, e2, ih K (by omega) hKg (pre ++ Tree.flats (T.kids.take j)) post' hp1 _ (by rw [List.length_append]; omega) k (by omega), Option.bind_some, List.length_append]
    exact ihj (by omega) (K.flat ++ post') hp2 k (by omega)
  have hall := loop T.kids.length (Nat.le_refl _) ([(T.op, T.n)] ++ post) (by rw [List.take_length, h, Tree.flat_eq]; simp) k (by rw [List.take_length]; omega)
  rw [List.take_length] at hall
  rw [show (i : Int) = ((pre.length + (Tree.flats T.kids).length : Nat) : Int) by omega]
  exact hall

/-- The roots of trees that stand one behind the other from a place on. -/
def roots : Nat → List Tree.Tr → List Int
 | _, [] => []
 | b, k :: ks => (((b + k.flat.length : Nat) : Int) - 1) :: roots (b + k.flat.length) ks
theorem roots_len (ks : List Tree.Tr) : ∀ b, (roots b ks).length = ks.length := by
 induction ks with
 | nil => intro b; rfl
 | cons x t ih => intro b; simp [roots, ih]
theorem roots_get (ks : List Tree.Tr) : ∀ (b j : Nat), j < ks.length → (roots b ks).getD j 0 = ((b + (Tree.flats (ks.take (j + 1))).length : Nat) : Int) - 1 := by
 induction ks with
 | nil => intro b j h; exact absurd h (Nat.not_lt_zero _)
 | cons x t ih =>
  intro b j h
  cases j with
  | zero => simp [roots, Tree.flats]
  | succ j =>
   have := ih (b + x.flat.length) j (by simpa using h)
   simp only [roots, List.getD_cons_succ, List.take_succ_cons, Tree.flats, List.length_append]
   rw [this]
   congr 2
   omega
theorem roots_drop (ks : List Tree.Tr) (b j : Nat) {K : Tree.Tr} (h : ks[j]? = some K) : roots (b + (Tree.flats (ks.take j)).length) (ks.drop j) = (((b + (Tree.flats (ks.take (j + 1))).length : Nat) : Int) - 1) :: roots (b + (Tree.flats (ks.take (j + 1))).length) (ks.drop (j + 1)) := by
 obtain ⟨hi, e⟩ := List.getElem?_eq_some_iff.1 h
 rw [List.drop_eq_getElem_cons hi, e]
 have := Tree.flats_take_succ ks j h
 rw [this, ← Nat.add_assoc]
 rfl
/-- A kid's nodes among all. -/
theorem kid_at (l pre post : List (Int × Int)) (T : Tree.Tr) (h : l = pre ++ T.flat ++ post) (j : Nat) (K : Tree.Tr) (hK : T.kids[j]? = some K) : l = (pre ++ Tree.flats (T.kids.take j)) ++ K.flat ++ (Tree.flats (T.kids.drop (j + 1)) ++ [(T.op, T.n)] ++ post) := by
 obtain ⟨hi, e⟩ := List.getElem?_eq_some_iff.1 hK
 have h1 : T.kids = T.kids.take j ++ (K :: T.kids.drop (j + 1)) := by rw [← e, ← List.drop_eq_getElem_cons hi, List.take_append_drop]
 rw [h, Tree.flat_eq]
 conv => lhs; rw [h1, Tree.flats_append]
 simp [Tree.flats]
theorem parts_f (t : List S96) (hn : t.length ≤ 1048576) (T : Tree.Tr) (hg : Tree.Good T) (pre post : List (Int × Int)) (h : toP t = pre ++ T.flat ++ post) (i : Nat) (hi : i + 1 = pre.length + T.flat.length) (k : Nat) (hk : 2 * T.flat.length + 3 ≤ k) :
  spec_l2Parts.f k t (i : Int) = some (roots pre.length T.kids) := by
 obtain ⟨hil, ho, -⟩ := rd_flat t pre post T h i hi
 have hf : T.flat.length = (Tree.flats T.kids).length + 1 := by rw [Tree.flat_eq]; simp
 have hlen : pre.length + T.flat.length ≤ t.length := by
  have := congrArg List.length h
  rw [toP_len, List.length_append, List.length_append] at this
  omega
 have hge := Tree.flats_ge T.kids
 unfold spec_l2Parts.f
 rw [if_pos (by omega), if_pos (by omega), ho, arity_good k (by omega) hg, Option.bind_some]
 have loop : ∀ (j : Nat), j ≤ T.kids.length → ∀ (k : Nat), 2 * (Tree.flats (T.kids.take j)).length + 2 ≤ k →
   spec_l2Parts.l0 k t (roots (pre.length + (Tree.flats (T.kids.take j)).length) (T.kids.drop j)) (((pre.length + (Tree.flats (T.kids.take j)).length : Nat) : Int) - 1) (j : Int) = some (roots pre.length T.kids) := by
  intro j
  induction j with
  | zero =>
   intro _ k hk
   obtain ⟨k, rfl⟩ : ∃ m, k = m + 1 := ⟨k - 1, by omega⟩
   unfold spec_l2Parts.l0
   rw [if_neg (by omega)]
   simp [Tree.flats]
  | succ j ihj =>
   intro hj k hk
   obtain ⟨k, rfl⟩ : ∃ m, k = m + 1 := ⟨k - 1, by omega⟩
   have hj' : j < T.kids.length := by omega
   have hK : T.kids[j]? = some T.kids[j] := List.getElem?_eq_getElem hj'
   have hKg : Tree.Good T.kids[j] := hg.kids _ (List.getElem_mem hj')
   generalize T.kids[j] = K at hK hKg
   have hK1 := Tree.flat_pos K
   have hsucc := Tree.flats_take_succ T.kids j hK
   have hle := Tree.flats_take_le T.kids (j + 1)
   have hat := kid_at _ _ _ T h j K hK
   have e1 : (((pre.length + (Tree.flats (T.kids.take (j + 1))).length : Nat) : Int) - 1) = ((pre.length + (Tree.flats (T.kids.take j)).length + K.flat.length - 1 : Nat) : Int) := by omega
   have hfrom := from_f t hn K.flat.length K (Nat.le_refl _) hKg _ _ hat (pre.length + (Tree.flats (T.kids.take j)).length + K.flat.length - 1) (by rw [List.length_append]; omega) k (by omega)
   rw [List.length_append] at hfrom
   have e2 : wrap64 (((pre.length + (Tree.flats (T.kids.take j)).length : Nat) : Int) - 1) = ((pre.length + (Tree.flats (T.kids.take j)).length : Nat) : Int) - 1 := by unfold wrap64; omega
   have e3 : wrap64 (((j + 1 : Nat) : Int) - 1) = (j : Int) := by unfold wrap64; omega
   have hrl := roots_len (T.kids.drop (j + 1)) (pre.length + (Tree.flats (T.kids.take (j + 1))).length)
   rw [List.length_drop] at hrl
   have hd := roots_drop T.kids pre.length j hK
   unfold spec_l2Parts.l0
   rw [if_pos (by omega), Option.bind_some, if_pos (by rw [hrl]; simp; omega), e1, hfrom, Option.bind_some, e2, e3]
   have := ihj (by omega) k (by omega)
   rw [hd, e1] at this
   exact this
 have hall := loop T.kids.length (Nat.le_refl _) k (by rw [List.take_length]; omega)
 rw [List.take_length, List.drop_length] at hall
 have e : wrap64 ((i : Int) - 1) = ((pre.length + (Tree.flats T.kids).length : Nat) : Int) - 1 := by unfold wrap64; omega
 rw [e]
 exact hall

/-- What markNodeS writes: numbers from one on. -/
def mkN (m0 : Nat) (j : Nat) : S96 := ⟨((m0 + 2 * j : Nat) : Int), ((m0 + 2 * j + 1 : Nat) : Int)⟩
theorem markN_run (n : Nat) (hn : n ≤ 140737480000000) (m0 : Nat) (hm0 : m0 ≤ 300000000) (d : Nat) : ∀ (k i : Nat) (x : List S96), i + d = n → x.length = n → (∀ j, j < i → x[j]? = some (mkN m0 j)) → d < k →
  laws_markNodeS.l0 k x ((m0 + 2 * i : Nat) : Int) (i : Int) = some (((m0 + 2 * n : Nat) : Int), (List.range n).map (mkN m0)) := by
 induction d with
 | zero =>
  intro k i x hi hl hj hk
  obtain ⟨k, rfl⟩ : ∃ m, k = m + 1 := ⟨k - 1, by omega⟩
  simp only [laws_markNodeS.l0]
  rw [if_neg (by omega)]
  have e : i = n := by omega
  subst e
  congr 2
  apply List.ext_getElem?
  intro j
  by_cases h : j < i
  ·rw [hj j h, List.getElem?_map, List.getElem?_range h]; rfl
  ·rw [List.getElem?_eq_none (by omega), List.getElem?_eq_none (by simp; omega)]
 | succ d ih =>
  intro k i x hi hl hj hk
  obtain ⟨k, rfl⟩ : ∃ m, k = m + 1 := ⟨k - 1, by omega⟩
  simp only [laws_markNodeS.l0, Option.bind_some]
  have e1 : wrap64 (((m0 + 2 * i : Nat) : Int) + 1) = ((m0 + 2 * i + 1 : Nat) : Int) := by unfold wrap64; omega
  have e2 : wrap64 (((m0 + 2 * i + 1 : Nat) : Int) + 1) = ((m0 + 2 * (i + 1) : Nat) : Int) := by unfold wrap64; omega
  have e3 : (rd_T96 (x.set i ⟨((m0 + 2 * i : Nat) : Int), (rd_T96 x (i : Int)).f1⟩) (i : Int)).f0 = ((m0 + 2 * i : Nat) : Int) := by
   rw [rdN_nat, List.getD_eq_getElem?_getD, List.getElem?_set_self (by omega)]
   rfl
  rw [if_pos (by omega), if_pos (by omega), Int.toNat_natCast, e1, e2, wn64s i (by omega), e3]
  refine ih k (i + 1) _ (by omega) (by simpa using hl) ?_ (by omega)
  intro j hji
  rw [List.getElem?_set]
  by_cases h : i = j
  ·subst h
   rw [if_pos rfl, if_pos (by simp; omega)]
   rfl
  ·rw [if_neg h, List.getElem?_set_ne h]
   exact hj j (by omega)
theorem markN_g (x : List S96) (hn : x.length ≤ 140737480000000) (m0 : Nat) (hm0 : m0 ≤ 300000000) (k : Nat) (hk : x.length < k) : laws_markNodeS.f k x (m0 : Int) = some (((m0 + 2 * x.length : Nat) : Int), (List.range x.length).map (mkN m0)) :=
 markN_run x.length hn m0 hm0 x.length k 0 x (by omega) rfl (fun j hj => by omega) hk

theorem enW_cv (n : List S130) (hn : n.length ≤ 1048576) (hs : (n.map fun x => x.f2.length).sum ≤ 1048576) : enW (n.map cvE) ≤ 3145728 := by
 have h : enW (n.map cvE) = (n.map fun x => x.f2.length).sum + 2 * n.length := by
  clear hn hs
  unfold enW
  induction n with
  | nil => rfl
  | cons x t ih =>
   simp only [List.map_cons, List.sum_cons, List.length_cons] at ih ⊢
   rw [ih]
   show x.f2.length + 2 + _ = _
   omega
 omega

theorem heldI_run (n : Nat) (hn : n ≤ 1048576) (m0 : Nat) (hm0 : m0 ≤ 300000000) (d : Nat) : ∀ (k i : Nat), i + d = n → d < k →
  laws_heldIntS.l0 k (mkI m0 n) (((m0 + i : Nat)) : Int) (i : Int) = some (((m0 + n : Nat) : Int)) := by
 induction d with
 | zero =>
  intro k i hi hk
  obtain ⟨k, rfl⟩ : ∃ m, k = m + 1 := ⟨k - 1, by omega⟩
  simp only [laws_heldIntS.l0]
  rw [if_neg (by rw [mkI_len]; omega)]
  congr 2
  omega
 | succ d ih =>
  intro k i hi hk
  obtain ⟨k, rfl⟩ : ∃ m, k = m + 1 := ⟨k - 1, by omega⟩
  simp only [laws_heldIntS.l0]
  have hr : rd (mkI m0 n) (i : Int) = ((m0 + i : Nat) : Int) := by
   rw [rd_nat, getD_lt _ _ (by rw [mkI_len]; omega)]
   unfold mkI
   simp
  rw [if_pos (by rw [mkI_len]; omega), if_pos (by omega), hr, if_pos rfl, w64s i (by omega), w64s (m0 + i) (by omega)]
  exact ih k (i + 1) (by omega) (by omega)
theorem heldI_at (m n : Nat) (hn : n ≤ 1048576) (hm : m ≤ 300000000) (k : Nat) (hk : n < k) : laws_heldIntS.f k (mkI m n) (m : Int) = some ((m + n : Nat) : Int) := heldI_run n hn m hm n k 0 (by omega) hk

theorem fit_good {n : List S114} {p : List Int} (hg : goodG n p = true) : kidsFit n p = true := by
 unfold kidsFit
 rw [List.all_eq_true]
 intro x hx
 obtain ⟨i, hi, rfl⟩ := List.getElem_of_mem hx
 have hl := gg_len hg
 have hlo : loose n = true := by
  unfold goodG at hg
  simp only [Bool.and_eq_true] at hg
  exact hg.1.1.2
 have h := loose_at hlo i hi
 have e : n.getD i z114 = n[i] := by rw [List.getD_eq_getElem?_getD, List.getElem?_eq_getElem hi]; rfl
 rw [e] at h
 unfold enOK at h
 rw [Bool.and_eq_true, Bool.and_eq_true] at h
 rw [Bool.and_eq_true]
 refine ⟨h.1.2, ?_⟩
 rw [List.all_eq_true]
 intro c hc
 have := of_decide_eq_true (List.all_eq_true.1 h.2 c hc)
 exact decide_eq_true (by omega)
theorem pat_f (t : List S96) (hn : t.length ≤ 1048576) (k : Nat) (hk : t.length + 1 < k) : spec_GoodPattern.f k t = some (patTree t).isSome := by
 unfold spec_GoodPattern.f patTree
 rw [specGood_f t hn k hk, Option.bind_some]
 by_cases h : t.length ≤ 7
 ·rw [if_pos h, decide_eq_true (by omega)]
  cases (Tree.treeOf (toP t)).isSome <;> rfl
 ·rw [if_neg h, decide_eq_false (by omega)]
  cases (Tree.treeOf (toP t)).isSome <;> rfl

/-! Binds, as they grow; the lists of them without doubles. -/
theorem Bd.set_get (b : Bd) (m v i : Int) (hm : 0 ≤ m ∧ m ≤ 3) (hi : 0 ≤ i ∧ i ≤ 3) : (b.set m v).get i = if i = m then v else b.get i := by
 obtain ⟨b0, b1, b2, b3⟩ := b
 have h1 : m = 0 ∨ m = 1 ∨ m = 2 ∨ m = 3 := by omega
 have h2 : i = 0 ∨ i = 1 ∨ i = 2 ∨ i = 3 := by omega
 rcases h1 with rfl | rfl | rfl | rfl <;> rcases h2 with rfl | rfl | rfl | rfl <;> simp [Bd.get, Bd.set]
theorem Bd.ext_get {a b : Bd} (h : ∀ i, 0 ≤ i → i ≤ 3 → a.get i = b.get i) : a = b := by
 obtain ⟨a0, a1, a2, a3⟩ := a
 obtain ⟨b0, b1, b2, b3⟩ := b
 have h0 := h 0 (by omega) (by omega)
 have h1 := h 1 (by omega) (by omega)
 have h2 := h 2 (by omega) (by omega)
 have h3 := h 3 (by omega) (by omega)
 simp [Bd.get] at h0 h1 h2 h3
 rw [h0, h1, h2, h3]
mutual
def varT : Tree.Tr → Int → Bool | .mk o m ks, i => if o = 2 then decide (i = m) else varTs ks i
def varTs : List Tree.Tr → Int → Bool | [], _ => false | K :: ks, i => varT K i || varTs ks i
end
theorem varT_eq (T : Tree.Tr) (i : Int) : varT T i = if T.op = 2 then decide (i = T.n) else varTs T.kids i := by cases T; rw [varT]; rfl
/-- A bind that goes on from another: what is bound stays; bound are those and the named ones. -/
def Grown (b b' : Bd) (V : Int → Bool) : Prop := ∀ i, 0 ≤ i → i ≤ 3 → (b'.get i = -1 ↔ (b.get i = -1 ∧ V i = false)) ∧ (b.get i ≠ -1 → b'.get i = b.get i)
theorem Grown.refl (b : Bd) : Grown b b (fun _ => false) := fun i _ _ => ⟨by simp, fun _ => rfl⟩
theorem Grown.trans {a b c : Bd} {V U : Int → Bool} (h : Grown a b V) (k : Grown b c U) : Grown a c (fun i => V i || U i) := by
 intro i h0 h3
 obtain ⟨p1, p2⟩ := h i h0 h3
 obtain ⟨q1, q2⟩ := k i h0 h3
 refine ⟨?_, fun hn => ?_⟩
 ·rw [q1, p1, Bool.or_eq_false_iff, and_assoc]
 ·have e := p2 hn
  rw [q2 (by rw [e]; exact hn), e]
theorem Grown.same {b b1 b2 x : Bd} {V U : Int → Bool} (h1 : Grown b b1 V) (h2 : Grown b b2 V) (k1 : Grown b1 x U) (k2 : Grown b2 x U) : b1 = b2 := by
 refine Bd.ext_get fun i h0 h3 => ?_
 obtain ⟨p1, -⟩ := h1 i h0 h3
 obtain ⟨q1, -⟩ := h2 i h0 h3
 obtain ⟨-, r1⟩ := k1 i h0 h3
 obtain ⟨-, r2⟩ := k2 i h0 h3
 by_cases e : b1.get i = -1
 ·rw [e, q1.2 (p1.1 e)]
 ·have e2 : b2.get i ≠ -1 := fun h => e (p1.2 (q1.1 h))
  rw [← r1 e, ← r2 e2]
theorem dedupF_mem (l : List Bd) : ∀ (seen : List Bd) (b : Bd), b ∈ dedupF seen l ↔ b ∈ l ∧ b ∉ seen := by
 induction l with
 | nil => intro s b; simp [dedupF]
 | cons x t ih =>
  intro s b
  rw [dedupF_cons]
  by_cases h : x ∈ s
  ·rw [if_pos h, ih, List.mem_cons]
   constructor
   ·rintro ⟨h1, h2⟩; exact ⟨.inr h1, h2⟩
   ·rintro ⟨rfl | h1, h2⟩
    ·exact absurd h h2
    ·exact ⟨h1, h2⟩
  ·rw [if_neg h, List.mem_cons, ih, List.mem_cons, List.mem_append, List.mem_singleton]
   constructor
   ·rintro (rfl | ⟨h1, h2⟩)
    ·exact ⟨.inl rfl, h⟩
    ·exact ⟨.inr h1, fun e => h2 (.inl e)⟩
   ·rintro ⟨rfl | h1, h2⟩
    ·exact .inl rfl
    ·by_cases e : b = x
     ·exact .inl e
     ·exact .inr ⟨h1, fun e2 => e2.elim h2 e⟩
theorem dedupF_nodup (l : List Bd) : ∀ (seen : List Bd), (dedupF seen l).Nodup := by
 induction l with
 | nil => intro s; exact List.nodup_nil
 | cons x t ih =>
  intro s
  rw [dedupF_cons]
  by_cases h : x ∈ s
  ·rw [if_pos h]; exact ih s
  ·rw [if_neg h, List.nodup_cons]
   refine ⟨fun hm => ?_, ih _⟩
   exact ((dedupF_mem t _ x).1 hm).2 (List.mem_append_right _ (List.mem_singleton.2 rfl))
theorem dedupF_full (X l : List Bd) (hX : X.Nodup) : (X ++ dedupF X l).Nodup := by
 rw [List.nodup_append]
 refine ⟨hX, dedupF_nodup l X, fun a ha b hb e => ?_⟩
 subst e
 exact ((dedupF_mem l X a).1 hb).2 ha
theorem dedupF_append (l m : List Bd) : ∀ (seen : List Bd), dedupF seen (l ++ m) = dedupF seen l ++ dedupF (seen ++ dedupF seen l) m := by
 induction l with
 | nil => intro s; simp [dedupF]
 | cons x t ih =>
  intro s
  rw [List.cons_append, dedupF_cons, dedupF_cons]
  by_cases h : x ∈ s
  ·rw [if_pos h, if_pos h]; exact ih s
  ·rw [if_neg h, if_neg h, ih (s ++ [x]), List.cons_append, List.append_assoc]
   rfl
theorem kidsT_grown (n : List S114) (p : List Int) (hp : ∀ c, 0 ≤ rd p c ∧ rd p c ≤ 998) (ks : List Tree.Tr)
  (h : ∀ K ∈ ks, ∀ (part : Int) (b b' : Bd), 0 ≤ part → part ≤ 998 → okBd b → b' ∈ allT n p K part b → Grown b b' (varT K) ∧ okBd b') :
  ∀ (cs : List Int) (b b' : Bd), okBd b → b' ∈ kidsT n p ks cs b → Grown b b' (varTs ks) ∧ okBd b' := by
 induction ks with
 | nil =>
  intro cs b b' hb hm
  rw [kidsT, List.mem_singleton] at hm
  subst hm
  refine ⟨?_, hb⟩
  have : varTs [] = fun _ => false := by funext i; rw [varTs]
  rw [this]; exact Grown.refl b'
 | cons K ks ih =>
  intro cs b b' hb hm
  rw [kidsT, List.mem_flatMap] at hm
  obtain ⟨b1, h1, h2⟩ := hm
  obtain ⟨g1, o1⟩ := h K List.mem_cons_self _ b b1 (hp _).1 (hp _).2 hb ((dedupF_mem _ _ _).1 h1).1
  obtain ⟨g2, o2⟩ := ih (fun K hK => h K (List.mem_cons_of_mem _ hK)) cs.tail b1 b' o1 h2
  have : varTs (K :: ks) = fun i => varT K i || varTs ks i := by funext i; rw [varTs]
  rw [this]
  exact ⟨g1.trans g2, o2⟩
theorem catN_mem (f : Nat → List Bd) (b : Bd) (d : Nat) : ∀ j, b ∈ catN f j d → ∃ i, j ≤ i ∧ i < j + d ∧ b ∈ f i := by
 induction d with
 | zero => intro j h; rw [catN] at h; exact absurd h (by simp)
 | succ d ih =>
  intro j h
  rw [catN, List.mem_append] at h
  rcases h with h | h
  ·exact ⟨j, Nat.le_refl _, by omega, h⟩
  ·obtain ⟨i, h1, h2, h3⟩ := ih (j + 1) h
   exact ⟨i, by omega, by omega, h3⟩
theorem allT_grown (n : List S114) (p : List Int) (hp : ∀ c, 0 ≤ rd p c ∧ rd p c ≤ 998) (d : Nat) : ∀ (T : Tree.Tr), T.flat.length ≤ d → Tree.Good T → ∀ (part : Int) (b b' : Bd), 0 ≤ part → part ≤ 998 → okBd b → b' ∈ allT n p T part b → Grown b b' (varT T) ∧ okBd b' := by
 induction d with
 | zero => intro T h; have := Tree.flat_pos T; omega
 | succ d ih =>
  intro T hd hT part b b' hp0 hp1 hb hm
  have hv : varT T = fun i => if T.op = 2 then decide (i = T.n) else varTs T.kids i := by funext i; exact varT_eq T i
  rw [hv]
  rw [allT_eq] at hm
  by_cases hop : T.op = 2
  ·rw [if_pos hop] at hm
   simp only [if_pos hop]
   have hnum := hT.num
   unfold Tree.numOK at hnum
   rw [if_neg (by omega), if_pos hop] at hnum
   obtain ⟨n0, n4⟩ := of_decide_eq_true hnum
   by_cases h1 : 0 ≤ b.get T.n ∧ b.get T.n ≠ part
   ·rw [if_pos h1] at hm; exact absurd hm (by simp)
   ·rw [if_neg h1, List.mem_singleton] at hm
    subst hm
    have hok : okBd (b.set T.n part) := okBd.set hb T.n ⟨by omega, hp1⟩
    refine ⟨fun i hi0 hi3 => ?_, hok⟩
    rw [Bd.set_get b T.n part i ⟨n0, by omega⟩ ⟨hi0, hi3⟩]
    by_cases e : i = T.n
    ·rw [if_pos e]
     refine ⟨⟨fun h => absurd h (by omega), fun h => absurd h.2 (by simp [e])⟩, fun hn => ?_⟩
     have hge : -1 ≤ b.get T.n := by
      obtain ⟨h0, h2, h3, h4⟩ := hb
      unfold okI64 at h0 h2 h3 h4
      unfold Bd.get
      split
      ·omega
      ·split
       ·omega
       ·split <;> omega
     rw [e] at hn ⊢
     have : 0 ≤ b.get T.n := by omega
     exact (Classical.not_not.1 (fun hne => h1 ⟨this, hne⟩)).symm
    ·rw [if_neg e]
     exact ⟨⟨fun h => ⟨h, by simp [e]⟩, fun h => h.1⟩, fun _ => rfl⟩
  ·rw [if_neg hop] at hm
   simp only [if_neg hop]
   obtain ⟨i, -, -, hi⟩ := catN_mem _ _ _ _ hm
   unfold nodeT at hi
   split at hi
   ·refine kidsT_grown n p hp T.kids (fun K hK part b b' h0 h1 h2 h3 => ih K ?_ (hT.kids _ hK) part b b' h0 h1 h2 h3) _ b b' hb hi
    obtain ⟨j, hj, rfl⟩ := List.getElem_of_mem hK
    have hf : T.flat.length = (Tree.flats T.kids).length + 1 := by rw [Tree.flat_eq]; simp
    have hsucc := Tree.flats_take_succ T.kids j (List.getElem?_eq_getElem hj)
    have hle := Tree.flats_take_le T.kids (j + 1)
    omega
   ·exact absurd hi (by simp)
/-- The binds behind one kid more: none twice. -/
theorem step_nodup {b0 : Bd} {V U : Int → Bool} (B : List Bd) (f : Bd → List Bd) (hB : B.Nodup) (hG : ∀ b ∈ B, Grown b0 b V) (hf : ∀ b ∈ B, (f b).Nodup) (hU : ∀ b ∈ B, ∀ x ∈ f b, Grown b x U) : (B.flatMap f).Nodup := by
 unfold List.Nodup at hB ⊢
 rw [List.pairwise_flatMap]
 refine ⟨fun b hb => hf b hb, ?_⟩
 refine List.Pairwise.imp_of_mem ?_ hB
 intro a c ha hc hne x hx y hy e
 subst e
 exact hne ((hG a ha).same (hG c hc) (hU a ha x hx) (hU c hc x hy))
/-- What binds collects: the first sixty. -/
theorem out_run (l : List Bd) : ∀ (out : List Bd), out.length < 60 → (runC stepOut l out).1 = (out ++ dedupF out l).take 60 := by
 induction l with
 | nil => intro out h; simp [runC, dedupF]; rw [List.take_of_length_le (by omega)]
 | cons b t ih =>
  intro out h
  rw [runC_cons, dedupF_cons]
  have hs : stepOut out b = if b ∈ out then (out, decide ((out.length : Int) < 60)) else (out ++ [b], decide (((out ++ [b]).length : Int) < 60)) := rfl
  rw [hs]
  by_cases hm : b ∈ out
  ·rw [if_pos hm, if_pos hm]
   rw [if_pos (by simp; omega)]
   exact ih out h
  ·rw [if_neg hm, if_neg hm]
   have el : ((out ++ [b]).length : Int) = (out.length : Int) + 1 := by simp
   by_cases h2 : out.length + 1 < 60
   ·rw [if_pos (by rw [el]; simp; omega), ih (out ++ [b]) (by simp; omega), List.append_assoc]
    rfl
   ·rw [if_neg (by rw [el]; simp; omega)]
    have e : out ++ b :: dedupF (out ++ [b]) t = (out ++ [b]) ++ dedupF (out ++ [b]) t := by simp
    rw [e, List.take_append_of_le_length (by simp; omega), List.take_of_length_le (by simp; omega)]

/-! The reference's lists of binds are those of the program. -/
def Ev {α : Type} (f : Nat → Option α) (r : α) : Prop := ∃ K, ∀ k, K ≤ k → f k = some r
theorem bd_rd (b : Bd) (m : Int) (h : 0 ≤ m ∧ m ≤ 3) : rd (bdL b) m = b.get m := by
 obtain ⟨b0, b1, b2, b3⟩ := b
 have h1 : m = 0 ∨ m = 1 ∨ m = 2 ∨ m = 3 := by omega
 rcases h1 with rfl | rfl | rfl | rfl <;> simp [Bd.get, bdL, rd]
theorem bd_set (b : Bd) (m v : Int) (h : 0 ≤ m ∧ m ≤ 3) : (bdL b).set m.toNat v = bdL (b.set m v) := by
 obtain ⟨b0, b1, b2, b3⟩ := b
 have h1 : m = 0 ∨ m = 1 ∨ m = 2 ∨ m = 3 := by omega
 rcases h1 with rfl | rfl | rfl | rfl <;> simp [Bd.set, bdL]
theorem bd_len (b : Bd) : (bdL b).length = 4 := rfl
theorem bd_inj {a b : Bd} (h : bdL a = bdL b) : a = b := by
 obtain ⟨a0, a1, a2, a3⟩ := a
 obtain ⟨b0, b1, b2, b3⟩ := b
 unfold bdL at h
 simp only [List.cons.injEq, and_true] at h
 obtain ⟨rfl, rfl, rfl, rfl⟩ := h
 rfl
theorem rdL_map (l : List Bd) (i : Nat) (h : i < l.length) : rd_L1 (l.map bdL) (i : Int) = bdL l[i] := by
 unfold rd_L1
 rw [Int.toNat_natCast, List.getD_eq_getElem?_getD, List.getElem?_map, List.getElem?_eq_getElem h]
 rfl
theorem hold_run (l : List Bd) (b : Bd) (hl : l.length ≤ 10000000000000) (d : Nat) : ∀ (k i : Nat), i + d = l.length → d + 10 ≤ k →
  spec_l7Hold.l0 k (bdL b) (l.map bdL) (l.length : Int) (i : Int) = some (decide (b ∈ l.drop i)) := by
 induction d with
 | zero =>
  intro k i hi hk
  obtain ⟨k, rfl⟩ : ∃ m, k = m + 1 := ⟨k - 1, by omega⟩
  simp only [spec_l7Hold.l0]
  rw [if_neg (by omega), List.drop_eq_nil_of_le (by omega)]
  simp
 | succ d ih =>
  intro k i hi hk
  obtain ⟨k, rfl⟩ : ∃ m, k = m + 1 := ⟨k - 1, by omega⟩
  have hil : i < l.length := by omega
  simp only [spec_l7Hold.l0]
  rw [if_pos (by omega), if_pos (by omega), if_pos (by rw [List.length_map]; omega), rdL_map l i hil, l1Same_f (bdL l[i]) (bdL b) (by rw [bd_len]; omega) k (by rw [bd_len]; omega), Option.bind_some, wn64s i (by omega), List.drop_eq_getElem_cons hil]
  by_cases e : l[i] = b
  ·rw [if_pos (by rw [e]; simp), e]; simp
  ·rw [if_neg (by rw [beq_iff_eq]; exact fun h => e (bd_inj h)), ih k (i + 1) (by omega) (by omega)]
   congr 1
   simp only [decide_eq_decide, List.mem_cons]
   exact ⟨.inr, fun h => h.resolve_left (fun h => e h.symm)⟩
theorem hold_f (l : List Bd) (b : Bd) (hl : l.length ≤ 10000000000000) (k : Nat) (hk : l.length + 10 ≤ k) : spec_l7Hold.f k (l.map bdL) (bdL b) = some (decide (b ∈ l)) := by
 unfold spec_l7Hold.f
 have := hold_run l b hl l.length k 0 (by omega) hk
 rw [List.drop_zero] at this
 rw [List.length_map]
 exact this
theorem m_l3 (t : List S96) (i part : Int) (l4 : List Int) (n : List S114) (x54 j : Int) (B : List Bd) (n' : List S114) (p : List Int) (o v : Int) (R : List (List Int)) (hB : ∀ b ∈ B, okBd b) (hBl : B.length ≤ 1000000000000) (d : Nat) : ∀ (m : Nat) (X : List Bd), m + d = B.length → X.Nodup → (∀ x ∈ X, okBd x) →
  Ev (fun k => spec_l7Match.l0 k t i part l4 ((X ++ dedupF X (B.drop m)).map bdL) n x54 (wrap64 (j + 1)) n' p o v) R →
  Ev (fun k => spec_l7Match.l3 k t i part l4 (X.map bdL) n x54 j (B.map bdL) (B.length : Int) (m : Int) n' p o v) R := by
 induction d with
 | zero =>
  rintro m X hm hX hok ⟨K, hK⟩
  refine ⟨K + 1, fun k hk => ?_⟩
  obtain ⟨k, rfl⟩ : ∃ m, k = m + 1 := ⟨k - 1, by omega⟩
  rw [List.drop_eq_nil_of_le (by omega)] at hK
  have e : X ++ dedupF X [] = X := by simp [dedupF]
  rw [e] at hK
  simp only [spec_l7Match.l3]
  rw [if_neg (by omega)]
  exact hK k (by omega)
 | succ d ih =>
  intro m X hm hX hok hR
  have hml : m < B.length := by omega
  have hXl := binds_len hX hok
  rw [List.drop_eq_getElem_cons hml, dedupF_cons] at hR
  by_cases e : B[m] ∈ X
  ·rw [if_pos e] at hR
   obtain ⟨K, hK⟩ := ih (m + 1) X (by omega) hX hok hR
   refine ⟨K + X.length + 20, fun k hk => ?_⟩
   obtain ⟨k, rfl⟩ : ∃ m, k = m + 1 := ⟨k - 1, by omega⟩
   simp only [spec_l7Match.l3]
   rw [if_pos (by omega), if_pos (by omega), if_pos (by rw [List.length_map]; omega), rdL_map B m hml, hold_f X _ (by omega) k (by omega), Option.bind_some, if_pos (by simp [e]), wn64s m (by omega)]
   exact hK k (by omega)
  ·rw [if_neg e] at hR
   have e2 : X ++ B[m] :: dedupF (X ++ [B[m]]) (B.drop (m + 1)) = (X ++ [B[m]]) ++ dedupF (X ++ [B[m]]) (B.drop (m + 1)) := by simp
   rw [e2] at hR
   have hX2 : (X ++ [B[m]]).Nodup := by
    rw [List.nodup_append]
    refine ⟨hX, by simp, fun a ha b hb e3 => ?_⟩
    rw [List.mem_singleton] at hb
    subst e3; subst hb
    exact e ha
   have hok2 : ∀ x ∈ X ++ [B[m]], okBd x := by
    intro x hx
    rcases List.mem_append.1 hx with h | h
    ·exact hok x h
    ·rw [List.mem_singleton] at h; subst h; exact hB _ (List.getElem_mem hml)
   obtain ⟨K, hK⟩ := ih (m + 1) (X ++ [B[m]]) (by omega) hX2 hok2 hR
   refine ⟨K + X.length + 20, fun k hk => ?_⟩
   obtain ⟨k, rfl⟩ : ∃ m, k = m + 1 := ⟨k - 1, by omega⟩
   simp only [spec_l7Match.l3]
   rw [if_pos (by omega), if_pos (by omega), if_pos (by rw [List.length_map]; omega), rdL_map B m hml, hold_f X _ (by omega) k (by omega), Option.bind_some, if_neg (by simp [e]), if_pos (by rw [List.length_map]; omega), wn64s m (by omega)]
   have := hK k (by omega)
   rw [List.map_append] at this
   exact this
theorem m_l2 (t : List S96) (i part : Int) (l4 : List Int) (x13 : List (List Int)) (x17 : Nat) (x18 : Int) (n : List S114) (x54 x55 : Int) (x85 : List Int) (x86 : Int) (B : List Bd) (n' : List S114) (p : List Int) (o v f0 f1 : Int) (f2 : List Int) (R : List (List Int)) (g : Bd → List Bd) (h17 : x17 < f2.length) (h17b : x17 ≤ 1000)
  (hg : ∀ b ∈ B, Ev (fun k => spec_l7Match.f k n' p t x18 (rd f2 (x17 : Int)) (bdL b)) ((g b).map bdL)) (hBl : B.length ≤ 1000000000000) (hsz : (B.flatMap g).length ≤ 1000000000000) (d : Nat) : ∀ (m : Nat) (Y : List Bd), m + d = B.length → (Y ++ (B.drop m).flatMap g) = B.flatMap g →
  Ev (fun k => spec_l7Match.l1 k t i part l4 x13 ((B.flatMap g).map bdL) n x54 x55 x85 x86 ((x17 + 1 : Nat) : Int) n' p o v f0 f1 f2) R →
  Ev (fun k => spec_l7Match.l2 k t i part l4 x13 (x17 : Int) x18 (Y.map bdL) n x54 x55 x85 x86 (x17 : Int) (B.map bdL) (B.length : Int) (m : Int) n' p o v f0 f1 f2) R := by
 induction d with
 | zero =>
  rintro m Y hm hY ⟨K, hK⟩
  refine ⟨K + 1, fun k hk => ?_⟩
  obtain ⟨k, rfl⟩ : ∃ m, k = m + 1 := ⟨k - 1, by omega⟩
  rw [List.drop_eq_nil_of_le (by omega), List.flatMap_nil, List.append_nil] at hY
  simp only [spec_l7Match.l2]
  rw [if_neg (by omega), wn64s x17 (by omega), hY]
  exact hK k (by omega)
 | succ d ih =>
  intro m Y hm hY hR
  have hml : m < B.length := by omega
  obtain ⟨K1, hK1⟩ := hg B[m] (List.getElem_mem hml)
  have hY2 : (Y ++ g B[m]) ++ (B.drop (m + 1)).flatMap g = B.flatMap g := by
   rw [← hY, List.drop_eq_getElem_cons hml, List.flatMap_cons, List.append_assoc]
  obtain ⟨K, hK⟩ := ih (m + 1) (Y ++ g B[m]) (by omega) hY2 hR
  have hlen : Y.length + (g B[m]).length ≤ (B.flatMap g).length := by rw [← hY2]; simp
  refine ⟨K + K1 + 1, fun k hk => ?_⟩
  obtain ⟨k, rfl⟩ : ∃ m, k = m + 1 := ⟨k - 1, by omega⟩
  have e1 : spec_l7Match.f k n' p t x18 (rd f2 (x17 : Int)) (bdL B[m]) = some ((g B[m]).map bdL) := hK1 k (by omega)
  simp only [spec_l7Match.l2]
  rw [if_pos (by omega), if_pos (by omega), if_pos (by rw [List.length_map]; omega), if_pos (by omega), if_pos (by omega), rdL_map B m hml, e1, Option.bind_some, if_pos (by rw [List.length_map, List.length_map]; omega), wn64s m (by omega)]
  have := hK k (by omega)
  rw [List.map_append] at this
  exact this
theorem m_l1 (n : List S114) (p : List Int) (hp : ∀ c, 0 ≤ rd p c ∧ rd p c ≤ 998) (t : List S96) (i part : Int) (l4 : List Int) (x54 j : Int) (ks : List Tree.Tr) (hks : ∀ K ∈ ks, Tree.Good K) (rs cs : List Int) (hr : rs.length = ks.length) (hc : cs.length = ks.length) (h3 : ks.length ≤ 3) (hcp : ∀ c ∈ cs, 0 ≤ c ∧ c ≤ 998 ∧ rd p c = c) (o v f0 f1 : Int) (R : List (List Int)) (X : List Bd) (hX : X.Nodup) (hXo : ∀ x ∈ X, okBd x) (b0 : Bd)
  (hk : ∀ m (h : m < ks.length) (b : Bd), okBd b → Ev (fun k => spec_l7Match.f k n p t (rs.getD m 0) (cs.getD m 0) (bdL b)) ((dedupF [] (allT n p ks[m] (cs.getD m 0) b)).map bdL)) (d : Nat) : ∀ (m : Nat) (B : List Bd), m + d = ks.length → B.Nodup → (∀ b ∈ B, okBd b) → (∃ V, ∀ b ∈ B, Grown b0 b V) →
  Ev (fun k => spec_l7Match.l0 k t i part l4 ((X ++ dedupF X (B.flatMap fun b => kidsT n p (ks.drop m) (cs.drop m) b)).map bdL) n x54 (wrap64 (j + 1)) n p o v) R →
  Ev (fun k => spec_l7Match.l1 k t i part l4 (X.map bdL) (B.map bdL) n x54 j rs (rs.length : Int) (m : Int) n p o v f0 f1 cs) R := by
 induction d with
 | zero =>
  intro m B hm hB hok _ hR
  have e : (B.flatMap fun b => kidsT n p (ks.drop m) (cs.drop m) b) = B.drop 0 := by
   have e0 : ks.drop m = [] := List.drop_eq_nil_of_le (by omega)
   rw [e0, List.drop_zero]
   have : (fun b => kidsT n p [] (cs.drop m) b) = fun b => [b] := by funext b; rw [kidsT]
   rw [this]
   simp
  rw [e] at hR
  obtain ⟨K, hK⟩ := m_l3 t i part l4 n x54 j B n p o v R hok (binds_len hB hok) B.length 0 X (by omega) hX hXo hR
  refine ⟨K + 1, fun k hk => ?_⟩
  obtain ⟨k, rfl⟩ : ∃ m, k = m + 1 := ⟨k - 1, by omega⟩
  simp only [spec_l7Match.l1]
  rw [if_neg (by omega), List.length_map]
  exact hK k (by omega)
 | succ d ih =>
  rintro m B hm hB hok ⟨V, hV⟩ hR
  have hml : m < ks.length := by omega
  have hcl : m < cs.length := by omega
  have ecs : cs.getD m 0 = cs[m] := getD_lt cs m hcl
  obtain ⟨c0, c1, c2⟩ := hcp _ (List.getElem_mem hcl)
  have hgr : ∀ b ∈ B, ∀ x ∈ dedupF [] (allT n p ks[m] (cs.getD m 0) b), Grown b x (varT ks[m]) ∧ okBd x := fun b hb x hx =>
   allT_grown n p hp _ ks[m] (Nat.le_refl _) (hks _ (List.getElem_mem hml)) (cs.getD m 0) b x (by omega) (by omega) (hok b hb) ((dedupF_mem _ _ _).1 hx).1
  have hB2 : (B.flatMap fun b => dedupF [] (allT n p ks[m] (cs.getD m 0) b)).Nodup := step_nodup B _ hB hV (fun b _ => dedupF_nodup _ _) (fun b hb x hx => (hgr b hb x hx).1)
  have hok2 : ∀ x ∈ (B.flatMap fun b => dedupF [] (allT n p ks[m] (cs.getD m 0) b)), okBd x := by
   intro x hx
   obtain ⟨b, hb, hx⟩ := List.mem_flatMap.1 hx
   exact (hgr b hb x hx).2
  have hV2 : ∃ V, ∀ x ∈ (B.flatMap fun b => dedupF [] (allT n p ks[m] (cs.getD m 0) b)), Grown b0 x V := by
   refine ⟨fun i => V i || varT ks[m] i, fun x hx => ?_⟩
   obtain ⟨b, hb, hx⟩ := List.mem_flatMap.1 hx
   exact (hV b hb).trans (hgr b hb x hx).1
  have e : (B.flatMap fun b => kidsT n p (ks.drop m) (cs.drop m) b) = ((B.flatMap fun b => dedupF [] (allT n p ks[m] (cs.getD m 0) b)).flatMap fun b => kidsT n p (ks.drop (m + 1)) (cs.drop (m + 1)) b) := by
   rw [List.flatMap_assoc]
   congr 1
   funext b
   rw [List.drop_eq_getElem_cons hml, List.drop_eq_getElem_cons hcl, kidsT]
   show (dedupF [] (allT n p ks[m] (rd p cs[m]) b)).flatMap _ = _
   rw [c2, ecs]
   rfl
  rw [e] at hR
  have h1 := ih (m + 1) _ (by omega) hB2 hok2 hV2 hR
  obtain ⟨K, hK⟩ := m_l2 t i part l4 (X.map bdL) m (rd rs (m : Int)) n x54 j rs (rs.length : Int) B n p o v f0 f1 cs R _ (by omega) (by omega)
   (fun b hb => by rw [rd_nat, rd_nat]; exact hk m hml b (hok b hb)) (binds_len hB hok) (binds_len hB2 hok2) B.length 0 [] (by omega) (by rw [List.drop_zero, List.nil_append]) h1
  refine ⟨K + 1, fun k hk => ?_⟩
  obtain ⟨k, rfl⟩ : ∃ m, k = m + 1 := ⟨k - 1, by omega⟩
  simp only [spec_l7Match.l1]
  rw [if_pos (by omega), if_pos (by omega), if_pos (by omega), List.length_map]
  exact hK k (by omega)
theorem m_l0 (n : List S114) (p : List Int) (hg : goodG n p = true) (hfit : kidsFit n p = true) (hp : ∀ c, 0 ≤ rd p c ∧ rd p c ≤ 998) (t : List S96) (T : Tree.Tr) (hT : Tree.Good T) (i part : Int) (b : Bd) (hb : okBd b) (rs : List Int) (hr : rs.length = T.kids.length) (F : Nat) (hparts : ∀ k, F ≤ k → spec_l2Parts.f k t i = some rs)
  (hk : ∀ m (h : m < T.kids.length) (c : Int) (b : Bd), 0 ≤ c → c ≤ 998 → okBd b → Ev (fun k => spec_l7Match.f k n p t (rs.getD m 0) c (bdL b)) ((dedupF [] (allT n p T.kids[m] c b)).map bdL)) (d : Nat) : ∀ (j : Nat) (X : List Bd), j + d = n.length → X.Nodup → (∀ x ∈ X, okBd x) →
  Ev (fun k => spec_l7Match.l0 k t i part (bdL b) (X.map bdL) n (n.length : Int) (j : Int) n p T.op T.n) ((X ++ dedupF X (catN (nodeT n p T part b) j d)).map bdL) := by
 obtain ⟨hpn, hn⟩ := gg_len hg
 induction d with
 | zero =>
  intro j X hj hX hok
  refine ⟨1, fun k hk => ?_⟩
  obtain ⟨k, rfl⟩ : ∃ m, k = m + 1 := ⟨k - 1, by omega⟩
  simp only [spec_l7Match.l0]
  rw [if_neg (by omega), catN]
  simp [dedupF]
 | succ d ih =>
  intro j X hj hX hok
  have hjn : j < n.length := by omega
  have hfj := kidsFit_at hfit j hjn
  have hkid := gg_kids hg j hjn
  have hgrow : ∀ x ∈ nodeT n p T part b j, okBd x := by
   intro x hx
   unfold nodeT at hx
   split at hx
   ·exact (kidsT_grown n p hp T.kids (fun K hK part b b' h0 h1 h2 h3 => allT_grown n p hp _ K (Nat.le_refl _) (hT.kids _ hK) part b b' h0 h1 h2 h3) _ b x hb hx).2
   ·exact absurd hx (by simp)
  rw [catN, dedupF_append, ← List.append_assoc]
  have hX2 := dedupF_full X (nodeT n p T part b j) hX
  have hok2 : ∀ x ∈ X ++ dedupF X (nodeT n p T part b j), okBd x := by
   intro x hx
   rcases List.mem_append.1 hx with h | h
   ·exact hok x h
   ·exact hgrow x ((dedupF_mem _ _ _).1 h).1
  have hI := ih (j + 1) _ (by omega) hX2 hok2
  have hM : nodeT n p T part b j = if rd p (j : Int) = part ∧ (n.getD j z114).f0 = T.op ∧ (n.getD j z114).f1 = T.n then kidsT n p T.kids (n.getD j z114).f2 b else [] := rfl
  generalize hx : n.getD j z114 = x at hfj hkid hM
  have hskip : nodeT n p T part b j = [] → ∀ (f2 : List Int) (f0 f1 : Int), Ev (fun k => spec_l7Match.j1 k t i part (bdL b) (X.map bdL) n (n.length : Int) (j : Int) true n p T.op T.n f0 f1 f2) ((X ++ dedupF X (nodeT n p T part b j) ++ dedupF (X ++ dedupF X (nodeT n p T part b j)) (catN (nodeT n p T part b) (j + 1) d)).map bdL) := by
   intro h0 f2 f0 f1
   obtain ⟨K, hK⟩ := hI
   refine ⟨K + 1, fun k hk => ?_⟩
   obtain ⟨k, rfl⟩ : ∃ m, k = m + 1 := ⟨k - 1, by omega⟩
   simp only [spec_l7Match.j1, if_true]
   rw [wn64s j (by omega), ← hK k (by omega), h0]
   simp [dedupF]
  have hgo : ∀ (K0 : Nat), (∃ K, ∀ k, K ≤ k → (if rd p (j : Int) = part then (if x.f0 = T.op then spec_l7Match.j1 k t i part (bdL b) (X.map bdL) n (n.length : Int) (j : Int) (x.f1 != T.n) n p T.op T.n x.f0 x.f1 x.f2 else spec_l7Match.j1 k t i part (bdL b) (X.map bdL) n (n.length : Int) (j : Int) true n p T.op T.n x.f0 x.f1 x.f2) else spec_l7Match.j1 k t i part (bdL b) (X.map bdL) n (n.length : Int) (j : Int) true n p T.op T.n x.f0 x.f1 x.f2) = some ((X ++ dedupF X (nodeT n p T part b j) ++ dedupF (X ++ dedupF X (nodeT n p T part b j)) (catN (nodeT n p T part b) (j + 1) d)).map bdL)) → Ev (fun k => spec_l7Match.l0 k t i part (bdL b) (X.map bdL) n (n.length : Int) (j : Int) n p T.op T.n) ((X ++ dedupF X (nodeT n p T part b j) ++ dedupF (X ++ dedupF X (nodeT n p T part b j)) (catN (nodeT n p T part b) (j + 1) d)).map bdL) := by
   rintro _ ⟨K, hK⟩
   refine ⟨K + 1, fun k hk => ?_⟩
   obtain ⟨k, rfl⟩ : ∃ m, k = m + 1 := ⟨k - 1, by omega⟩
   simp only [spec_l7Match.l0]
   rw [if_pos (by omega), if_pos (by omega), if_pos (by omega), if_pos (by omega), rdE_getD, hx]
   exact hK k (by omega)
  refine hgo 0 ?_
  by_cases h1 : rd p (j : Int) = part
  ·simp only [if_pos h1]
   by_cases h2 : x.f0 = T.op
   ·simp only [if_pos h2]
    by_cases h3 : x.f1 = T.n
    ·have har := hT.arity
     have har3 := Tree.arity_range T.op
     have hlen : x.f2.length = T.kids.length := by have := hfj.1; rw [h2] at this; omega
     have hMe : nodeT n p T part b j = kidsT n p T.kids x.f2 b := by rw [hM, if_pos ⟨h1, h2, h3⟩]
     have hcp : ∀ c ∈ x.f2, 0 ≤ c ∧ c ≤ 998 ∧ rd p c = c := fun c hc => by have := hkid.2 c hc; exact ⟨this.1, by omega, this.2.2⟩
     have hR : Ev (fun k => spec_l7Match.l0 k t i part (bdL b) ((X ++ dedupF X ([b].flatMap fun b => kidsT n p (T.kids.drop 0) (x.f2.drop 0) b)).map bdL) n (n.length : Int) (wrap64 ((j : Int) + 1)) n p T.op T.n) ((X ++ dedupF X (nodeT n p T part b j) ++ dedupF (X ++ dedupF X (nodeT n p T part b j)) (catN (nodeT n p T part b) (j + 1) d)).map bdL) := by
      have e : ([b].flatMap fun b => kidsT n p (T.kids.drop 0) (x.f2.drop 0) b) = nodeT n p T part b j := by rw [hMe]; simp
      rw [e, wn64s j (by omega)]
      exact hI
     obtain ⟨K, hK⟩ := m_l1 n p hp t i part (bdL b) (n.length : Int) (j : Int) T.kids (fun K hK => hT.kids _ hK) rs x.f2 hr hlen (by omega) hcp T.op T.n x.f0 x.f1 _ X hX hok b
      (fun m h b' hb' => by
       have hml : m < x.f2.length := by omega
       have eg : x.f2.getD m 0 = x.f2[m] := getD_lt x.f2 m hml
       obtain ⟨c0, c1, -⟩ := hcp _ (List.getElem_mem hml)
       rw [eg]
       exact hk m h _ b' c0 c1 hb') T.kids.length 0 [b] (by omega) (by simp) (fun y hy => by rw [List.mem_singleton] at hy; subst hy; exact hb) ⟨_, fun y hy => by rw [List.mem_singleton] at hy; subst hy; exact Grown.refl y⟩ hR
     refine ⟨K + F + 1, fun k hk => ?_⟩
     obtain ⟨k, rfl⟩ : ∃ m, k = m + 1 := ⟨k - 1, by omega⟩
     simp only [spec_l7Match.j1]
     rw [if_neg (by simp [h3]), hparts k (by omega), Option.bind_some]
     exact hK k (by omega)
    ·have e : (x.f1 != T.n) = true := by rw [bne_iff_ne]; exact h3
     rw [e]
     exact hskip (by rw [hM, if_neg (fun h => h3 h.2.2)]) _ _ _
   ·simp only [if_neg h2]
    exact hskip (by rw [hM, if_neg (fun h => h2 h.2.1)]) _ _ _
  ·simp only [if_neg h1]
   exact hskip (by rw [hM, if_neg (fun h => h1 h.1)]) _ _ _

theorem Bd.set_same (b : Bd) (m : Int) (hm : 0 ≤ m ∧ m ≤ 3) : b.set m (b.get m) = b := by
 refine Bd.ext_get fun i h0 h3 => ?_
 rw [Bd.set_get b m _ i hm ⟨h0, h3⟩]
 by_cases e : i = m
 ·rw [if_pos e, e]
 ·rw [if_neg e]
theorem bd_own (b : Bd) : spec_l1Own.f (bdL b) = some (bdL b) := by
 unfold spec_l1Own.f
 rw [Option.bind_some, if_pos (by rw [bd_len]; simp), List.nil_append]
theorem gg_small {n : List S114} {p : List Int} (hg : goodG n p = true) (c : Int) : 0 ≤ rd p c ∧ rd p c ≤ 998 := by
 obtain ⟨hpn, hnl⟩ := gg_len hg
 by_cases hc : c.toNat < p.length
 ·have h := gg_par hg c.toNat (by omega)
  have e : rd p c = p.getD c.toNat 0 := rfl
  rw [e]
  exact ⟨h.1, by have := h.2.1; omega⟩
 ·unfold rd
  rw [List.getD_eq_getElem?_getD, List.getElem?_eq_none (by omega)]
  simp
theorem m_f (n : List S114) (p : List Int) (hg : goodG n p = true) (t : List S96) (hn : t.length ≤ 1048576) (d : Nat) : ∀ (T : Tree.Tr), T.flat.length ≤ d → Tree.Good T → ∀ (pre post : List (Int × Int)), toP t = pre ++ T.flat ++ post → ∀ (i : Nat), i + 1 = pre.length + T.flat.length → ∀ (part : Int) (b : Bd), 0 ≤ part → part ≤ 998 → okBd b →
  Ev (fun k => spec_l7Match.f k n p t (i : Int) part (bdL b)) ((dedupF [] (allT n p T part b)).map bdL) := by
 induction d with
 | zero => intro T h; have := Tree.flat_pos T; omega
 | succ d ih =>
  intro T hd hT pre post h i hi part b hp0 hp1 hb
  obtain ⟨hil, ho, hv⟩ := rd_flat t pre post T h i hi
  have hpos := Tree.flat_pos T
  have hf : T.flat.length = (Tree.flats T.kids).length + 1 := by rw [Tree.flat_eq]; simp
  obtain ⟨hpn, hnl⟩ := gg_len hg
  rw [allT_eq]
  by_cases hop : T.op = 2
  ·rw [if_pos hop]
   have hnum := hT.num
   unfold Tree.numOK at hnum
   rw [if_neg (by omega), if_pos hop] at hnum
   obtain ⟨n0, n4⟩ := of_decide_eq_true hnum
   have hm : 0 ≤ T.n ∧ T.n ≤ 3 := ⟨n0, by omega⟩
   have hge : -1 ≤ b.get T.n := by
    obtain ⟨h0, h2, h3, h4⟩ := hb
    unfold okI64 at h0 h2 h3 h4
    unfold Bd.get
    split
    ·omega
    ·split
     ·omega
     ·split <;> omega
   refine ⟨1, fun k hk => ?_⟩
   obtain ⟨k, rfl⟩ : ∃ m, k = m + 1 := ⟨k - 1, by omega⟩
   simp only [spec_l7Match.f]
   rw [if_pos (by omega), if_pos (by omega), ho, hv, if_pos hop, if_pos n0, if_pos (by rw [bd_len]; omega), bd_rd b T.n hm]
   by_cases e : b.get T.n = part
   ·rw [if_pos e, if_neg (fun h => h.2 e)]
    have : b.set T.n part = b := by rw [← e]; exact Bd.set_same b T.n hm
    rw [this]
    simp [dedupF]
   ·rw [if_neg e]
    by_cases e1 : b.get T.n = -1
    ·rw [if_pos e1, bd_own, Option.bind_some, if_pos (by rw [bd_len]; omega), bd_set b T.n part hm, if_neg (by omega)]
     simp [dedupF]
    ·rw [if_neg e1, if_pos ⟨by omega, e⟩]
     simp [dedupF]
  ·rw [if_neg hop]
   have hroots := roots_len T.kids pre.length
   obtain ⟨K, hK⟩ := m_l0 n p hg (fit_good hg) (gg_small hg) t T hT (i : Int) part b hb (roots pre.length T.kids) hroots (2 * T.flat.length + 3) (fun k hk => parts_f t hn T hT pre post h i hi k (by omega)) (fun m hm c b' hc0 hc1 hb' => by
    have hKm : T.kids[m]? = some T.kids[m] := List.getElem?_eq_getElem hm
    have hKg : Tree.Good T.kids[m] := hT.kids _ (List.getElem_mem hm)
    generalize T.kids[m] = K at hKm hKg ⊢
    have hK1 := Tree.flat_pos K
    have hsucc := Tree.flats_take_succ T.kids m hKm
    have hle := Tree.flats_take_le T.kids (m + 1)
    have hat := kid_at _ _ _ T h m K hKm
    rw [roots_get T.kids pre.length m hm, show (((pre.length + (Tree.flats (T.kids.take (m + 1))).length : Nat) : Int) - 1) = ((pre.length + (Tree.flats (T.kids.take m)).length + K.flat.length - 1 : Nat) : Int) by omega]
    exact ih K (by omega) hKg _ _ hat _ (by rw [List.length_append]; omega) c b' hc0 hc1 hb') n.length 0 [] (by omega) List.nodup_nil (by simp)
   refine ⟨K + 1, fun k hk => ?_⟩
   obtain ⟨k, rfl⟩ : ∃ m, k = m + 1 := ⟨k - 1, by omega⟩
   simp only [spec_l7Match.f]
   rw [if_pos (by omega), if_pos (by omega), ho, hv, if_neg hop]
   exact hK k (by omega)
theorem none_f (k : Nat) (hk : 6 ≤ k) : spec_l7None.f k = some (bdL (-1, -1, -1, -1)) := by
 obtain ⟨k, rfl⟩ : ∃ m, k = m + 5 := ⟨k - 5, by omega⟩
 unfold spec_l7None.f
 simp [spec_l7None.l0, wrap64, bdL]
theorem at_run (L : List Bd) (hL : L.length ≤ 1000000000000) (d : Nat) : ∀ (k m : Nat), m + d = L.length → d < k →
  spec_l7At.l0 k (((L.take m).take 60).map bdL) (L.map bdL) (L.length : Int) (m : Int) = some ((L.take 60).map bdL) := by
 induction d with
 | zero =>
  intro k m hm hk
  obtain ⟨k, rfl⟩ : ∃ m, k = m + 1 := ⟨k - 1, by omega⟩
  simp only [spec_l7At.l0]
  have e : L.take m = L := List.take_of_length_le (by omega)
  rw [if_neg (by omega), e]
 | succ d ih =>
  intro k m hm hk
  obtain ⟨k, rfl⟩ : ∃ m, k = m + 1 := ⟨k - 1, by omega⟩
  have hml : m < L.length := by omega
  simp only [spec_l7At.l0]
  rw [if_pos (by omega), if_pos (by omega), if_pos (by rw [List.length_map]; omega), wn64s m (by omega)]
  have hI := ih k (m + 1) (by omega) (by omega)
  by_cases e : m < 60
  ·rw [if_pos (by omega), rdL_map L m hml, bd_own, Option.bind_some, if_pos (by rw [List.length_map]; have := List.length_take_le 60 (L.take m); omega)]
   have e2 : (L.take (m + 1)).take 60 = (L.take m).take 60 ++ [L[m]] := by
    rw [List.take_of_length_le (by rw [List.length_take]; omega), List.take_of_length_le (l := L.take m) (by rw [List.length_take]; omega), List.take_succ_eq_append_getElem hml]
   rw [e2, List.map_append] at hI
   exact hI
  ·rw [if_neg (by omega)]
   have e2 : (L.take (m + 1)).take 60 = (L.take m).take 60 := by
    rw [List.take_take, List.take_take, Nat.min_eq_left (by omega), Nat.min_eq_left (by omega)]
   rw [e2] at hI
   exact hI
theorem at_f (n : List S114) (p : List Int) (hg : goodG n p = true) (t : List S96) (ht : t.length ≤ 1048576) (T : Tree.Tr) (hT2 : t.length ≤ 7 ∧ Tree.treeOf (toP t) = some T) (a : Int) (hA : 0 ≤ a ∧ a ≤ 998) :
  Ev (fun k => spec_l7At.f k n p t a) ((bindsT n p T a).map bdL) := by
 obtain ⟨hgd, hfl, -⟩ := Tree.treeOf_flat hT2.2
 have hlen : T.flat.length = t.length := by rw [hfl, toP_len]
 have hpos := Tree.flat_pos T
 have e : wrap64 ((t.length : Int) - 1) = ((t.length - 1 : Nat) : Int) := by unfold wrap64; omega
 have hb0 : okBd (-1, -1, -1, -1) := by simp [okBd, okI64]
 obtain ⟨K, hK⟩ := m_f n p hg t ht 7 T (by omega) hgd [] [] (by rw [hfl]; simp) (t.length - 1) (by rw [hlen]; simp; omega) a (-1, -1, -1, -1) hA.1 hA.2 hb0
 have hN := dedupF_nodup (allT n p T a (-1, -1, -1, -1)) []
 have hO : ∀ b ∈ dedupF [] (allT n p T a (-1, -1, -1, -1)), okBd b := fun b hb => (allT_grown n p (gg_small hg) _ T (Nat.le_refl _) hgd a _ b hA.1 hA.2 hb0 ((dedupF_mem _ _ _).1 hb).1).2
 have hL := binds_len hN hO
 have hB : bindsT n p T a = (dedupF [] (allT n p T a (-1, -1, -1, -1))).take 60 := by
  unfold bindsT
  rw [out_run _ [] (by simp), List.nil_append]
 generalize dedupF [] (allT n p T a (-1, -1, -1, -1)) = L at hK hL hB
 refine ⟨K + L.length + 10, fun k hk => ?_⟩
 show spec_l7At.f k n p t a = _
 have e1 : spec_l7Match.f k n p t ((t.length - 1 : Nat) : Int) a (bdL (-1, -1, -1, -1)) = some (L.map bdL) := hK k (by omega)
 unfold spec_l7At.f
 rw [none_f k (by omega), Option.bind_some, e, e1, Option.bind_some, List.length_map, hB]
 have := at_run L hL L.length k 0 (by omega) (by omega)
 exact this

/-- The classes from i on. -/
def clsL (p : List Int) : Nat → Nat → List Int
 | _, 0 => []
 | i, d + 1 => if p.getD i 0 = (i : Int) then (i : Int) :: clsL p (i + 1) d else clsL p (i + 1) d
theorem clsL_len (p : List Int) (d : Nat) : ∀ i, (clsL p i d).length ≤ d := by
 induction d with
 | zero => intro i; simp [clsL]
 | succ d ih =>
  intro i
  have := ih (i + 1)
  simp only [clsL]
  split <;> simp <;> omega
theorem partList_run (p : List Int) (hp : p.length ≤ 1048576) (d : Nat) : ∀ (k i : Nat) (acc : List Int), i + d = p.length → acc.length ≤ i → d < k → impl_partList.l0 k acc p (p.length : Int) (i : Int) = some (acc ++ clsL p i d) ∧ spec_l6Classes.l0 k acc p (p.length : Int) (i : Int) = some (acc ++ clsL p i d) := by
 induction d with
 | zero =>
  intro k i acc hi ha hk
  obtain ⟨k, rfl⟩ : ∃ m, k = m + 1 := ⟨k - 1, by omega⟩
  simp only [impl_partList.l0, spec_l6Classes.l0, clsL]
  rw [if_neg (by omega), if_neg (by omega), List.append_nil]
  exact ⟨rfl, rfl⟩
 | succ d ih =>
  intro k i acc hi ha hk
  obtain ⟨k, rfl⟩ : ∃ m, k = m + 1 := ⟨k - 1, by omega⟩
  simp only [impl_partList.l0, spec_l6Classes.l0, clsL]
  have c1 : (i : Int) < (p.length : Int) := by omega
  have c3 : 0 ≤ (i : Int) := by omega
  have c5 : acc.length < 17592186044416 := by omega
  simp only [if_pos c1, if_pos c3, if_pos c5, w64s i (by omega), rd_nat]
  by_cases e : p.getD i 0 = (i : Int)
  ·simp only [if_pos e, if_pos e.symm]
   have := ih k (i + 1) (acc ++ [(i : Int)]) (by omega) (by simp; omega) (by omega)
   rw [List.append_assoc] at this
   exact this
  ·simp only [if_neg e, if_neg (fun h => e h.symm : ¬ (i : Int) = p.getD i 0)]
   exact ih k (i + 1) acc (by omega) (by omega) (by omega)
theorem partList_f (p : List Int) (hp : p.length ≤ 1048576) (k : Nat) (hk : p.length < k) : impl_partList.f k p = some (clsL p 0 p.length) := (partList_run p hp p.length k 0 [] (by omega) (by simp) hk).1
theorem l6Classes_f (n : List S114) (p : List Int) (hp : p.length ≤ 1048576) (k : Nat) (hk : p.length < k) : spec_l6Classes.f k n p = some (clsL p 0 p.length) := (partList_run p hp p.length k 0 [] (by omega) (by simp) hk).2

theorem eqFo_run (l : List S110) (hl : l.length ≤ 1000000) (hin : ∀ x ∈ l, x.f1.length ≤ 1000) (d : Nat) : ∀ (k i : Nat), i + d = l.length → d + 1010 ≤ k → laws_eqFoundS.l0 k l l (i : Int) = some true := by
 induction d with
 | zero =>
  intro k i hi hk
  obtain ⟨k, rfl⟩ : ∃ m, k = m + 1 := ⟨k - 1, by omega⟩
  simp only [laws_eqFoundS.l0]
  rw [if_neg (by omega)]
 | succ d ih =>
  intro k i hi hk
  obtain ⟨k, rfl⟩ : ∃ m, k = m + 1 := ⟨k - 1, by omega⟩
  have hil : i < l.length := by omega
  simp only [laws_eqFoundS.l0]
  have e : rd_T110 l (i : Int) = l[i] := by unfold rd_T110; rw [Int.toNat_natCast, List.getD_eq_getElem?_getD, List.getElem?_eq_getElem hil]; rfl
  have h1 := hin _ (List.getElem_mem hil)
  have e2 : laws_eqFound.f k l[i].f0 l[i].f1 l[i].f0 l[i].f1 = some true := by
   unfold laws_eqFound.f
   rw [if_pos rfl, laws_eqIntS_f l[i].f1 (by omega) k (by omega), Option.bind_some, if_pos rfl]
  rw [if_pos (by omega), if_pos (by omega), if_pos (by omega), e, e2, Option.bind_some, if_pos rfl, wn64s i (by omega)]
  exact ih k (i + 1) (by omega) (by omega)
theorem eqFo_f (l : List S110) (hl : l.length ≤ 1000000) (hin : ∀ x ∈ l, x.f1.length ≤ 1000) (k : Nat) (hk : 2000000 ≤ k) : laws_eqFoundS.f k l l = some true := by
 unfold laws_eqFoundS.f
 rw [if_pos rfl]
 exact eqFo_run l hl hin l.length k 0 (by omega) (by omega)
theorem mkFoL_len (l : List S110) (m : Nat) : (mkFoL l m).length = l.length := by unfold mkFoL; rw [List.length_map, List.length_range]
theorem mkFoL_at (l : List S110) (m i : Nat) (hi : i < l.length) : rd_T110 (mkFoL l m) (i : Int) = mkFo l m i := by
 unfold mkFoL rd_T110
 rw [Int.toNat_natCast, List.getD_eq_getElem?_getD, List.getElem?_map, List.getElem?_range hi]; rfl
theorem heldFo_run (l : List S110) (hl : l.length ≤ 1000000) (hin : ∀ x ∈ l, x.f1.length ≤ 1000) (hf : foW l ≤ 100000000) (d : Nat) : ∀ (k i : Nat), i + d = l.length → d + 1010 ≤ k →
  laws_heldFoundS.l0 k (mkFoL l 1) ((1 + foW (l.take i) : Nat) : Int) (i : Int) = some ((1 + foW l : Nat) : Int) := by
 induction d with
 | zero =>
  intro k i hi hk
  obtain ⟨k, rfl⟩ : ∃ m, k = m + 1 := ⟨k - 1, by omega⟩
  simp only [laws_heldFoundS.l0]
  rw [if_neg (by rw [mkFoL_len]; omega), List.take_of_length_le (by omega)]
 | succ d ih =>
  intro k i hi hk
  obtain ⟨k, rfl⟩ : ∃ m, k = m + 1 := ⟨k - 1, by omega⟩
  have hil : i < l.length := by omega
  have h1 := hin _ (List.getElem_mem hil)
  have h2 := foW_take_succ l i hil
  have h3 := foW_take_le l (i + 1)
  have eg : (l.getD i z110).f1.length ≤ 1000 := by rw [List.getD_eq_getElem?_getD, List.getElem?_eq_getElem hil]; exact h1
  simp only [laws_heldFoundS.l0]
  rw [if_pos (by rw [mkFoL_len]; omega), if_pos (by omega), mkFoL_at l 1 i hil]
  unfold mkFo
  simp only
  rw [if_pos trivial, show wrap64 (((1 + foW (l.take i) : Nat) : Int) + 1) = ((1 + foW (l.take i) + 1 : Nat) : Int) by unfold wrap64; omega, heldI_at (1 + foW (l.take i) + 1) (l.getD i z110).f1.length (by omega) (by omega) k (by omega), Option.bind_some, if_neg (by omega), wn64s i (by omega)]
  have := ih k (i + 1) (by omega) (by omega)
  rw [h2, show 1 + (foW (l.take i) + ((l.getD i z110).f1.length + 1)) = 1 + foW (l.take i) + 1 + (l.getD i z110).f1.length by omega] at this
  exact this
theorem heldFo_f (l : List S110) (hl : l.length ≤ 1000000) (hin : ∀ x ∈ l, x.f1.length ≤ 1000) (hf : foW l ≤ 100000000) (k : Nat) (hk : 2000000 ≤ k) : laws_heldFoundS.f k (mkFoL l 1) 1 = some ((1 + foW l : Nat) : Int) :=
 heldFo_run l hl hin hf l.length k 0 (by omega) (by omega)
theorem foW_4 (l : List S110) (hin : ∀ x ∈ l, x.f1.length = 4) : foW l = 5 * l.length := by
 induction l with
 | nil => rfl
 | cons x t ih =>
  have h1 := hin x (by simp)
  have h2 := ih (fun y hy => hin y (by simp [hy]))
  unfold foW at h2 ⊢
  rw [List.map_cons, List.sum_cons, h2, h1, List.length_cons]; omega
theorem clsL_in (p : List Int) (d : Nat) : ∀ i, ∀ c ∈ clsL p i d, (i : Int) ≤ c ∧ c < ((i + d : Nat) : Int) := by
 induction d with
 | zero => intro i c h; simp [clsL] at h
 | succ d ih =>
  intro i c h
  simp only [clsL] at h
  by_cases e : p.getD i 0 = (i : Int)
  ·rw [if_pos e] at h
   rcases List.mem_cons.1 h with h | h
   ·subst h
    exact ⟨Int.le_refl _, by omega⟩
   ·have := ih (i + 1) c h
    exact ⟨by omega, by omega⟩
  ·rw [if_neg e] at h
   have := ih (i + 1) c h
   exact ⟨by omega, by omega⟩
theorem bindsT_len (n : List S114) (p : List Int) (T : Tree.Tr) (c : Int) : (bindsT n p T c).length ≤ 60 := by
 unfold bindsT
 rw [out_run _ [] (by simp)]
 exact List.length_take_le _ _
theorem foundC_len (n : List S114) (p : List Int) (T : Tree.Tr) (c : Int) : (foundC n p T c).length ≤ 60 := by
 unfold foundC
 rw [List.length_map, List.length_map]
 exact bindsT_len n p T c
theorem foundT_len (n : List S114) (p : List Int) (T : Tree.Tr) (cs : List Int) : (foundT n p T cs).length ≤ 60 * cs.length := by
 induction cs with
 | nil => simp [foundT]
 | cons c t ih =>
  unfold foundT at ih ⊢
  rw [List.flatMap_cons, List.length_append, List.length_cons]
  have := foundC_len n p T c
  omega
theorem foundT_4 (n : List S114) (p : List Int) (T : Tree.Tr) (cs : List Int) : ∀ x ∈ foundT n p T cs, x.f1.length = 4 := by
 intro x hx
 unfold foundT at hx
 obtain ⟨c, -, hx⟩ := List.mem_flatMap.1 hx
 unfold foundC at hx
 obtain ⟨l, hl, rfl⟩ := List.mem_map.1 hx
 obtain ⟨b, -, rfl⟩ := List.mem_map.1 hl
 exact bd_len b
theorem l7All_l1 (n : List S114) (p : List Int) (t : List S96) (c : Int) (cs : List Int) (m i : Int) (rows : List (List Int)) (hr : rows.length ≤ 1000000) (d : Nat) : ∀ (k j : Nat) (acc : List S110), j + d = rows.length → acc.length + d ≤ 1000000 →
  spec_l7All.l1 (k + d + 1) t acc c cs m i rows (rows.length : Int) (j : Int) n p = spec_l7All.l0 k t (acc ++ (rows.drop j).map fun l => ⟨c, l⟩) cs m (wrap64 (i + 1)) n p := by
 induction d with
 | zero =>
  intro k j acc hj ha
  simp only [spec_l7All.l1]
  rw [if_neg (by omega), List.drop_of_length_le (by omega), List.map_nil, List.append_nil]
 | succ d ih =>
  intro k j acc hj ha
  have hjl : j < rows.length := by omega
  have e : rd_L1 rows (j : Int) = rows[j] := by unfold rd_L1; rw [Int.toNat_natCast, List.getD_eq_getElem?_getD, List.getElem?_eq_getElem hjl]; rfl
  obtain ⟨q, hq⟩ : ∃ q, q = k + d + 1 := ⟨_, rfl⟩
  rw [show k + (d + 1) + 1 = q + 1 by omega]
  simp only [spec_l7All.l1]
  rw [if_pos (by omega), if_pos (by omega), if_pos (by omega), if_pos (by omega), e, wn64s j (by omega), hq, ih k (j + 1) _ (by omega) (by rw [List.length_append, List.length_singleton]; omega), List.drop_eq_getElem_cons hjl, List.map_cons, List.append_assoc]
  rfl
theorem l7All_run (n : List S114) (p : List Int) (hg : goodG n p = true) (t : List S96) (ht : t.length ≤ 1048576) (T : Tree.Tr) (hT2 : t.length ≤ 7 ∧ Tree.treeOf (toP t) = some T) (cs : List Int) (hcl : cs.length ≤ 10000) (hcs : ∀ c ∈ cs, 0 ≤ c ∧ c ≤ 998) (d : Nat) : ∀ (i : Nat) (acc : List S110), i + d = cs.length → acc.length + 60 * d ≤ 1000000 →
  Ev (fun k => spec_l7All.l0 k t acc cs (cs.length : Int) (i : Int) n p) (acc ++ foundT n p T (cs.drop i)) := by
 induction d with
 | zero =>
  intro i acc hi ha
  refine ⟨1, fun k hk => ?_⟩
  obtain ⟨k, rfl⟩ : ∃ m, k = m + 1 := ⟨k - 1, by omega⟩
  show spec_l7All.l0 (k + 1) t acc cs (cs.length : Int) (i : Int) n p = _
  simp only [spec_l7All.l0]
  rw [if_neg (by omega), List.drop_of_length_le (by omega)]
  simp [foundT]
 | succ d ih =>
  intro i acc hi ha
  have hil : i < cs.length := by omega
  have e : rd cs (i : Int) = cs[i] := by unfold rd; rw [Int.toNat_natCast, List.getD_eq_getElem?_getD, List.getElem?_eq_getElem hil]; rfl
  have hc := hcs _ (List.getElem_mem hil)
  obtain ⟨K1, hK1⟩ := at_f n p hg t ht T hT2 cs[i] hc
  have hb := bindsT_len n p T cs[i]
  have hrl : ((bindsT n p T cs[i]).map bdL).length ≤ 60 := by rw [List.length_map]; exact hb
  have hcd : foundC n p T cs[i] = ((bindsT n p T cs[i]).map bdL).map fun l => ⟨cs[i], l⟩ := rfl
  obtain ⟨K2, hK2⟩ := ih (i + 1) (acc ++ foundC n p T cs[i]) (by omega) (by have := foundC_len n p T cs[i]; rw [List.length_append]; omega)
  have ed : acc ++ foundT n p T (cs.drop i) = acc ++ foundC n p T cs[i] ++ foundT n p T (cs.drop (i + 1)) := by
   rw [List.drop_eq_getElem_cons hil, List.append_assoc]
   unfold foundT
   rw [List.flatMap_cons]
  rw [ed]
  generalize (bindsT n p T cs[i]).map bdL = rows at hK1 hrl hcd
  refine ⟨K1 + K2 + rows.length + 10, fun k hk => ?_⟩
  obtain ⟨m, rfl⟩ : ∃ m, k = (m + rows.length + 1) + 1 := ⟨k - rows.length - 2, by omega⟩
  show spec_l7All.l0 ((m + rows.length + 1) + 1) t acc cs (cs.length : Int) (i : Int) n p = _
  have e1 : spec_l7At.f (m + rows.length + 1) n p t cs[i] = some rows := hK1 _ (by omega)
  have e2 : spec_l7All.l0 m t (acc ++ foundC n p T cs[i]) cs (cs.length : Int) ((i + 1 : Nat) : Int) n p = _ := hK2 m (by omega)
  simp only [spec_l7All.l0]
  rw [if_pos (by omega), if_pos (by omega), if_pos (by omega), e, e1, Option.bind_some]
  have e3 := l7All_l1 n p t cs[i] cs (cs.length : Int) (i : Int) rows (by omega) rows.length m 0 acc (by omega) (by omega)
  rw [List.drop_zero, ← hcd, wn64s i (by omega)] at e3
  exact e3.trans e2
theorem all_key (n : List S114) (p : List Int) (t : List S96) (hn : n.length ≤ 1048576) (hin : ∀ x ∈ n, x.f2.length ≤ 1048576) (hp : p.length ≤ 1048576) (ht : t.length ≤ 1048576) : ∃ (r : List S110) (s : Bool) (K : Nat), r.length ≤ 1000000 ∧ (∀ x ∈ r, x.f1.length = 4) ∧ ∀ k, K ≤ k → spec_AllMatches.f k n p t = some (r, s) ∧ impl_AllMatches.f k n p t = some (r, s) := by
 cases hg : goodG n p with
 | false =>
  refine ⟨[], false, 4194304, by simp, by simp, fun k hk => ?_⟩
  unfold spec_AllMatches.f impl_AllMatches.f
  rw [specGG_f n p hn hin hp k (by omega), implGG_f n p hn hp k (by omega), hg]
  exact ⟨rfl, by cases patTree t <;> rfl⟩
 | true =>
  obtain ⟨hpn, hnl⟩ := gg_len hg
  cases hT : patTree t with
  | none =>
   refine ⟨[], false, 4194304, by simp, by simp, fun k hk => ?_⟩
   unfold spec_AllMatches.f impl_AllMatches.f
   rw [specGG_f n p hn hin hp k (by omega), pat_f t ht k (by omega), hg, hT]
   exact ⟨rfl, rfl⟩
  | some T =>
   have hT2 : t.length ≤ 7 ∧ Tree.treeOf (toP t) = some T := by
    unfold patTree at hT
    split at hT
    ·exact ⟨by assumption, hT⟩
    ·exact absurd hT (by simp)
   have hP := gg_small hg
   have hS : smallB p = true := by
    unfold smallB
    rw [List.all_eq_true]
    intro x hx
    obtain ⟨i, hi, rfl⟩ := List.getElem_of_mem hx
    have := hP (i : Int)
    rw [rd_nat, getD_lt p i hi] at this
    exact decide_eq_true (by omega)
   have hcl := clsL_len p p.length 0
   have hci : ∀ c ∈ clsL p 0 p.length, 0 ≤ c ∧ c ≤ 998 := fun c hc => by
    have := clsL_in p p.length 0 c hc
    omega
   have hcS : smallB (clsL p 0 p.length) = true := by
    unfold smallB
    rw [List.all_eq_true]
    intro x hx
    have := hci x hx
    exact decide_eq_true (by omega)
   have hpl := partList_f p hp
   have hcls := l6Classes_f n p hp
   generalize clsL p 0 p.length = cs at hcl hci hcS hpl hcls
   have hfl := foundT_len n p T cs
   obtain ⟨K, hK⟩ := l7All_run n p hg t ht T hT2 cs (by omega) hci cs.length 0 [] (by omega) (by simp; omega)
   refine ⟨foundT n p T cs, true, K + 4194304, by omega, foundT_4 n p T cs, fun k hk => ?_⟩
   unfold spec_AllMatches.f impl_AllMatches.f
   rw [specGG_f n p hn hin hp k (by omega), implGG_f n p hn hp k (by omega), pat_f t ht k (by omega), hg, hT, hpl k (by omega)]
   simp only [Option.bind_some, if_true, Option.isSome_some]
   have e1 : spec_l7All.f k n p t = some (foundT n p T cs) := by
    unfold spec_l7All.f
    rw [hcls k (by omega), Option.bind_some]
    have := hK k (by omega)
    exact this
   rw [e1, Option.bind_some]
   refine ⟨rfl, ?_⟩
   rw [if_pos ⟨⟨⟨hpn, fit_good hg⟩, hS⟩, hcS, by omega, by omega⟩]
theorem FnExactAllMatches : RdFnExactAllMatches.Pure := by
 rintro ⟨n, p⟩ l ⟨hn, hp⟩ hl hl2 hll _
 simp only at hn hp hl hl2 ⊢
 by_cases hbig : n.length ≤ 1048576 ∧ p.length ≤ 1048576 ∧ l.length ≤ 1048576 ∧ ∀ x ∈ n, x.f2.length ≤ 1048576
 ·obtain ⟨b1, b2, b3, b4⟩ := hbig
  have hlen : (n.map cvE).length = n.length := List.length_map _
  have hlenN : (l.map cvN).length = l.length := List.length_map _
  have hin := cvE_len n b4
  obtain ⟨r, s, K0, hr, hr4, hK0⟩ := all_key (n.map cvE) p (l.map cvN) (by omega) hin b2 (by omega)
  obtain ⟨K, hK⟩ : ∃ K : Nat, K = K0 + 200000000 := ⟨_, rfl⟩
  refine ⟨K, ?_⟩
  unfold laws_FnExactAllMatches.f
  obtain ⟨t, ht, hh⟩ := szG_f n p 1048576 (by omega) (by omega) hl (fun x hx => (hn.2 x hx).2.2.1) hl2 K (by omega)
  rw [ht, Option.bind_some]
  by_cases h : t < 0
  ·rw [if_pos h]
  ·obtain ⟨t0, t1, h1, h2, h3, h4⟩ := hh.resolve_left h
   rw [if_neg h, szN_f l t t0 t1 hll, Option.bind_some]
   by_cases h' : t - (l.length : Int) < 0
   ·simp only [if_pos h']; rfl
   ·rw [if_neg h', if_neg h']
    have hW := enW_cv n b1 h4
    have hto := toG_f n p b1 b4 b2 K (by omega)
    have htn := toN_f l b3 K (by omega)
    obtain ⟨hs, hi⟩ := hK0 K (by omega)
    have hq := eqG_f (n.map cvE) p (by omega) hin b2 K (by omega)
    have hqn := eqN_f (l.map cvN) (by omega) K (by omega)
    have hmn := markN_g (l.map cvN) (by omega) (1 + enW (n.map cvE) + p.length) (by omega) K (by omega)
    have hfl := foW_4 r hr4
    have hri : ∀ x ∈ r, x.f1.length ≤ 1000 := fun x hx => by have := hr4 x hx; omega
    have he := eqFo_f r hr hri K (by omega)
    have hd := heldFo_f r hr hri (by omega) K (by omega)
    generalize n.map cvE = L at *
    generalize l.map cvN = M at *
    simp only [hto, htn, hs, hi, hq, hqn, hmn, he, hd, Option.bind_some]
    exact if_pos ⟨⟨trivial, trivial, trivial, trivial⟩, by omega, by omega, by omega, by omega, by omega, trivial⟩
 ·refine ⟨200000000, ?_⟩
  unfold laws_FnExactAllMatches.f
  obtain ⟨t, ht, hh⟩ := szG_f n p 1048576 (by omega) (by omega) hl (fun x hx => (hn.2 x hx).2.2.1) hl2 200000000 (by omega)
  rw [ht, Option.bind_some]
  by_cases h : t < 0
  ·rw [if_pos h]
  ·obtain ⟨t0, t1, h1, h2, h3, h4⟩ := hh.resolve_left h
   rw [if_neg h, szN_f l t t0 t1 hll, Option.bind_some]
   by_cases h' : t - (l.length : Int) < 0
   ·simp only [if_pos h']; rfl
   ·exact absurd ⟨h1, h3, by omega, h2⟩ hbig

end Go.Proofs.Ytakblgcheakbnaa.Pure
