/- The program's IsRing and the reference's answer alike at every list of nodes; no condition. -/
import Derived.Test.YtlneknaiimmfmaaPFnExactIsRingx3
import Derived.Test.YtlneknaiimmfmaaRdFnExactIsRing
import Derived.Test.YtlneknaiimmfmaaTreeRing
set_option linter.unusedVariables false
set_option linter.unusedSimpArgs false
namespace Go.Proofs.Ytlneknaiimmfmaa.Pure
open Go.RowKit Go.Proofs.Ytlneknaiimmfmaa.PFnExactIsRing Go.Proofs.YtlneknaiimmfmaaW.PrintWords Go.Proofs.YtlneknaiimmfmaaW.PrintLast Go.Proofs.YtlneknaiimmfmaaW.PrintMore

theorem wn64s (i : Nat) (h : i ≤ 140737488355328) : wrap64 ((i : Int) + 1) = ((i + 1 : Nat) : Int) := by unfold wrap64; omega
def cvN (x : S90) : S87 := ⟨x.f0, x.f1⟩
theorem rdN_nat (l : List S87) (i : Nat) : rd_T87 l (i : Int) = l.getD i z87 := by simp [rd_T87]
theorem szN_f (l : List S90) (m : Int) (hm0 : 0 ≤ m) (hm : m ≤ 1048576) (hl : l.length ≤ 9223372036854775807) : laws_szNodeS.f l m = some (if m - (l.length : Int) < 0 then -1 else m - (l.length : Int)) := by
  unfold laws_szNodeS.f
  have e : wrap64 (m - (l.length : Int)) = m - (l.length : Int) := by unfold wrap64; omega
  rw [e]
  split <;> rfl
theorem toN_run (x0 : List S90) (hn : x0.length ≤ 140737488351232) (d : Nat) : ∀ (k i : Nat) (x3 : List S87), i + d = x0.length → x3.length = x0.length → (∀ j, j < i → x3[j]? = (x0.map cvN)[j]?) → d < k →
    laws_toNodeS.l0 k x0 x3 (i : Int) = some (x0.map cvN) := by
  induction d with
  | zero =>
    intro k i x3 hi hl hj hk
    obtain ⟨k, rfl⟩ : ∃ m, k = m + 1 := ⟨k - 1, by omega⟩
    simp only [laws_toNodeS.l0]
    rw [if_neg (by omega)]
    congr 1
    apply List.ext_getElem?
    intro j
    by_cases h : j < i
    · exact hj j h
    · rw [List.getElem?_eq_none (by omega), List.getElem?_eq_none (by rw [List.length_map]; omega)]
  | succ d ih =>
    intro k i x3 hi hl hj hk
    obtain ⟨k, rfl⟩ : ∃ m, k = m + 1 := ⟨k - 1, by omega⟩
    simp only [laws_toNodeS.l0, laws_toNode.f, Option.bind_some]
    rw [if_pos (by omega), if_pos (by omega), if_pos (by omega), wn64s i (by omega)]
    refine ih k (i + 1) _ (by omega) (by simpa using hl) ?_ (by omega)
    intro j hji
    rw [Int.toNat_natCast, List.getElem?_set]
    by_cases h : i = j
    · subst h
      rw [if_pos rfl, if_pos (by omega), List.getElem?_map, List.getElem?_eq_getElem (by omega)]
      simp [rd_T90, cvN, List.getD_eq_getElem?_getD, List.getElem?_eq_getElem (show i < x0.length by omega)]
    · rw [if_neg h]
      exact hj j (by omega)
theorem toN_f (l : List S90) (hn : l.length ≤ 1048576) (k : Nat) (hk : l.length < k) : laws_toNodeS.f k l = some (l.map cvN) := by
  unfold laws_toNodeS.f
  rw [if_pos (by omega), if_pos (by omega)]
  exact toN_run l (by omega) l.length k 0 _ (by omega) (by simp) (fun j hj => by omega) hk
theorem eqN_run (x0 : List S87) (hn : x0.length ≤ 140737488351232) (d : Nat) : ∀ (k i : Nat), i + d = x0.length → d < k → laws_eqNodeS.l0 k x0 x0 (i : Int) = some true := by
  induction d with
  | zero =>
    intro k i hi hk
    obtain ⟨k, rfl⟩ : ∃ m, k = m + 1 := ⟨k - 1, by omega⟩
    simp only [laws_eqNodeS.l0]
    rw [if_neg (by omega)]
  | succ d ih =>
    intro k i hi hk
    obtain ⟨k, rfl⟩ : ∃ m, k = m + 1 := ⟨k - 1, by omega⟩
    simp only [laws_eqNodeS.l0, laws_eqNode.f]
    rw [if_pos (by omega), if_pos (by omega), if_pos (by omega), if_pos trivial, if_pos trivial, Option.bind_some, if_pos rfl, wn64s i (by omega)]
    exact ih k (i + 1) (by omega) (by omega)
theorem eqN_f (l : List S87) (hn : l.length ≤ 140737488351232) (k : Nat) (hk : l.length < k) : laws_eqNodeS.f k l l = some true := by
  unfold laws_eqNodeS.f
  rw [if_pos rfl]
  exact eqN_run l hn l.length k 0 (by omega) hk

theorem specArity_f (k : Nat) (hk : 0 < k) (op : Int) : spec_l1Arity.f k op = some (if 1 ≤ op ∧ op ≤ 11 then Tree.arity op else -1) := by
  obtain ⟨k, rfl⟩ : ∃ m, k = m + 1 := ⟨k - 1, by omega⟩
  unfold spec_l1Arity.f Tree.arity
  by_cases h1 : op = 1
  · subst h1; rfl
  · rw [if_neg h1]
    by_cases h2 : op = 2
    · subst h2; rfl
    · rw [if_neg (by omega : ¬ (op = 1 ∨ op = 2))]
      simp only [spec_l1Arity.j0]
      rw [if_neg (by simpa using h2)]
      by_cases h3 : op = 3
      · subst h3; rfl
      · rw [if_neg h3, if_neg h3]
        by_cases h4 : op = 11
        · subst h4; rfl
        · rw [if_neg h4, if_neg h4]
          unfold spec_l1In.f
          by_cases h5 : op ≥ 4
          · by_cases h6 : op ≤ 10
            · rw [if_pos h5, Option.bind_some, decide_eq_true h6, if_pos rfl, if_pos (by omega)]
            · rw [if_pos h5, Option.bind_some, decide_eq_false h6, if_neg (by simp), if_neg (by omega)]
          · rw [if_neg h5, Option.bind_some, if_neg (by simp), if_neg (by omega)]
/-- How many trees a list of nodes leaves. -/
def goodB (r : Option (List Tree.Tr × List Tree.Tr)) : Bool := match r with | some s => s.1.length == 1 | none => false
theorem specGood_run (t : List S87) (hn : t.length ≤ 1048576) (d : Nat) : ∀ (k i : Nat) (s : List Tree.Tr × List Tree.Tr), i + d = t.length → Tree.build (toP (t.take i)) ([], []) = some s → d + 1 < k →
    spec_GoodTerm.l0 k (s.1.length : Int) t (t.length : Int) (i : Int) = some (goodB (Tree.build (toP t) ([], []))) := by
  induction d with
  | zero =>
    intro k i s hi hs hk
    obtain ⟨k, rfl⟩ : ∃ m, k = m + 1 := ⟨k - 1, by omega⟩
    simp only [spec_GoodTerm.l0]
    have e : t.take i = t := List.take_of_length_le (by omega)
    rw [e] at hs
    rw [if_neg (by omega), hs]
    show some ((s.1.length : Int) == 1) = some (s.1.length == 1)
    congr 1
    rw [Bool.eq_iff_iff]; simp; omega
  | succ d ih =>
    intro k i s hi hs hk
    obtain ⟨k, rfl⟩ : ∃ m, k = m + 1 := ⟨k - 1, by omega⟩
    simp only [spec_GoodTerm.l0]
    rw [if_pos (by omega), if_pos (by omega), if_pos (by omega), specArity_f k (by omega), Option.bind_some, wn64s i (by omega), rdN_nat]
    have hlen := (Tree.build_len _ _ _ hs).1
    rw [toP_len, List.length_take] at hlen
    have hl2 : s.1.length ≤ t.length := by simp at hlen; omega
    have hsucc := build_succ t i (by omega) hs
    have hfail := build_fail t i (by omega) hs
    generalize t.getD i z87 = x at hsucc hfail ⊢
    obtain ⟨op, n⟩ := x
    simp only at hsucc hfail ⊢
    have hr := Tree.arity_range op
    have hbad : (Tree.numOK op n = true ∧ Tree.arity op ≤ (s.1.length : Int)) → False → True := fun _ _ => trivial
    by_cases hst : Tree.numOK op n = true ∧ Tree.arity op ≤ (s.1.length : Int)
    · have hstep : Tree.step s (op, n) = some (s.1.take (s.1.length - (Tree.arity op).toNat) ++ [.mk op n (s.1.drop (s.1.length - (Tree.arity op).toNat))], s.2 ++ [.mk op n (s.1.drop (s.1.length - (Tree.arity op).toNat))]) := if_pos hst
      rw [hstep] at hsucc
      have hgo := ih k (i + 1) _ (by omega) hsucc (by omega)
      have hlen' : (((s.1.take (s.1.length - (Tree.arity op).toNat) ++ [Tree.Tr.mk op n (s.1.drop (s.1.length - (Tree.arity op).toNat))]).length : Nat) : Int) = wrap64 ((s.1.length : Int) + wrap64 (1 - Tree.arity op)) := by
        rw [List.length_append, List.length_take, List.length_singleton]
        unfold wrap64
        omega
      simp only [hlen'] at hgo
      obtain ⟨hN, hA⟩ := hst
      unfold Tree.numOK at hN
      have hop : 1 ≤ op ∧ op ≤ 11 := by
        by_cases h1 : op = 1
        · omega
        · rw [if_neg h1] at hN
          by_cases h2 : op = 2
          · omega
          · rw [if_neg h2] at hN
            have := of_decide_eq_true hN
            omega
      rw [if_pos hop, if_neg (by omega), if_neg (by omega)]
      by_cases h2 : op = 2
      · subst h2
        rw [if_neg (by omega), if_pos rfl] at hN
        have hN := of_decide_eq_true hN
        rw [if_pos rfl, if_neg (by omega), if_neg (by omega), if_neg (by decide)]
        exact hgo
      · rw [if_neg h2]
        by_cases h1 : op = 1
        · subst h1
          rw [if_neg (by decide)]
          exact hgo
        · rw [if_neg h1, if_neg h2] at hN
          have hN := of_decide_eq_true hN
          have hpos : Tree.arity op > 0 := by
            unfold Tree.arity
            rw [if_neg (by omega)]
            split
            · omega
            · split <;> omega
          rw [if_pos hpos, if_pos hN.2.2]
          exact hgo
    · rw [hfail (if_neg hst)]
      show _ = some false
      by_cases hop : 1 ≤ op ∧ op ≤ 11
      · rw [if_pos hop, if_neg (by omega)]
        by_cases ha : (s.1.length : Int) < Tree.arity op
        · rw [if_pos ha]
        · rw [if_neg ha]
          have hN : ¬ Tree.numOK op n = true := fun h => hst ⟨h, by omega⟩
          unfold Tree.numOK at hN
          by_cases h2 : op = 2
          · subst h2
            rw [if_neg (by omega), if_pos rfl] at hN
            have hN : ¬ (0 ≤ n ∧ n < 4) := fun h => hN (decide_eq_true h)
            rw [if_pos rfl]
            by_cases hn0 : n < 0
            · rw [if_pos hn0]
            · rw [if_neg hn0, if_pos (by omega)]
          · rw [if_neg h2]
            by_cases h1 : op = 1
            · exact absurd (if_pos h1) hN
            · rw [if_neg h1, if_neg h2] at hN
              have hN : ¬ (1 ≤ op ∧ op ≤ 11 ∧ n = 0) := fun h => hN (decide_eq_true h)
              have hpos : Tree.arity op > 0 := by
                unfold Tree.arity
                rw [if_neg (by omega)]
                split
                · omega
                · split <;> omega
              rw [if_pos hpos, if_neg (by omega)]
      · rw [if_neg hop, if_pos (by omega)]
theorem treeOf_isSome (t : List (Int × Int)) : (Tree.treeOf t).isSome = (decide (1 ≤ t.length ∧ t.length ≤ 40) && goodB (Tree.build t ([], []))) := by
  unfold Tree.treeOf Tree.treesOf
  by_cases h : 1 ≤ t.length ∧ t.length ≤ 40
  · rw [if_pos h, decide_eq_true h, Bool.true_and]
    cases hb : Tree.build t ([], []) with
    | none => rfl
    | some s =>
      show (Option.bind (if s.1.length = 1 then some s.2 else none) List.getLast?).isSome = (s.1.length == 1)
      by_cases h1 : s.1.length = 1
      · have hl := (Tree.build_len _ _ _ hb).2
        rw [if_pos h1, Option.bind_some, h1]
        cases hs : s.2 with
        | nil => rw [hs] at hl; simp at hl; omega
        | cons a l => rw [List.getLast?_cons]; rfl
      · rw [if_neg h1]
        simp [h1]
  · rw [if_neg h, decide_eq_false h]; rfl
theorem specGood_f (t : List S87) (hn : t.length ≤ 1048576) (k : Nat) (hk : t.length + 1 < k) : spec_GoodTerm.f k t = some (Tree.treeOf (toP t)).isSome := by
  unfold spec_GoodTerm.f spec_l1In.f
  rw [treeOf_isSome, toP_len]
  by_cases h0 : 1 ≤ t.length
  · rw [if_pos (by omega), Option.bind_some]
    by_cases h1 : t.length ≤ 40
    · rw [decide_eq_true (by omega), if_pos rfl, decide_eq_true (⟨h0, h1⟩ : 1 ≤ t.length ∧ t.length ≤ 40), Bool.true_and]
      exact specGood_run t hn t.length k 0 ([], []) (by omega) rfl hk
    · rw [decide_eq_false (by omega), if_neg (by simp), decide_eq_false (by omega)]; rfl
  · rw [if_neg (by omega), Option.bind_some, if_neg (by simp), decide_eq_false (by omega)]; rfl

theorem toP_getD (t : List S87) (i : Nat) (hi : i < t.length) : (toP t).getD i (0, 0) = ((rd_T87 t (i : Int)).f0, (rd_T87 t (i : Int)).f1) := by
  unfold toP
  rw [rdN_nat, List.getD_eq_getElem?_getD, List.getElem?_map, List.getD_eq_getElem?_getD, List.getElem?_eq_getElem hi]
  rfl
def allF (p : Nat → Bool) : Nat → Nat → Bool
  | _, 0 => true
  | i, d + 1 => p i && allF p (i + 1) d
theorem allF_iff (p : Nat → Bool) (d : Nat) : ∀ i, allF p i d = true ↔ ∀ j, i ≤ j → j < i + d → p j = true := by
  induction d with
  | zero => intro i; exact ⟨fun _ j h1 h2 => by omega, fun _ => rfl⟩
  | succ d ih =>
    intro i
    show (p i && allF p (i + 1) d) = true ↔ _
    rw [Bool.and_eq_true, ih]
    constructor
    · rintro ⟨h1, h2⟩ j h3 h4
      by_cases e : j = i
      · rw [e]; exact h1
      · exact h2 j (by omega) (by omega)
    · intro h; exact ⟨h i (Nat.le_refl _) (by omega), fun j h1 h2 => h j (by omega) (by omega)⟩
theorem ring_run (t : List S87) (hn : t.length ≤ 1048576) (h7 : ∀ i : Nat, i < t.length → ((toP t).getD i (0, 0)).1 = 7 → 1 ≤ i) (hop : ∀ i : Nat, i < t.length → ((toP t).getD i (0, 0)).1 ≤ 11) (d : Nat) : ∀ (k i : Nat), i + d = t.length → 2 * d < k →
    spec_l4Ring.l0 k t t (t.length : Int) (i : Int) = some (allF (Tree.chk (toP t)) i d) := by
  induction d with
  | zero =>
    intro k i hi hk
    obtain ⟨k, rfl⟩ : ∃ m, k = m + 1 := ⟨k - 1, by omega⟩
    unfold spec_l4Ring.l0
    rw [if_neg (by omega)]; rfl
  | succ d ih =>
    intro k i hi hk
    obtain ⟨k, rfl⟩ : ∃ m, k = m + 2 := ⟨k - 2, by omega⟩
    have hil : i < t.length := by omega
    have g := toP_getD t i hil
    have h7i := h7 i hil
    have hopi := hop i hil
    rw [g] at h7i hopi
    simp only at h7i hopi
    have hstep := ih k (i + 1) (by omega) (by omega)
    have hsplit : allF (Tree.chk (toP t)) i (d + 1) = (Tree.chk (toP t) i && allF (Tree.chk (toP t)) (i + 1) d) := rfl
    rw [hsplit]
    have hchk : Tree.chk (toP t) i = (decide ((rd_T87 t (i : Int)).f0 ≤ 7) && (decide ((rd_T87 t (i : Int)).f0 ≠ 7) || decide (((toP t).getD (i - 1) (0, 0)).1 = 1))) := by
      unfold Tree.chk
      rw [g]
    rw [hchk]
    unfold spec_l4Ring.l0
    rw [if_pos (by omega), if_pos (by omega), if_pos (by omega)]
    have ej : ∀ b, spec_l4Ring.j1 (k + 1) t (i : Int) t (t.length : Int) (i : Int) (rd_T87 t (i : Int)).f0 b = if b = true then some false else if (rd_T87 t (i : Int)).f0 = 7 then (if ((toP t).getD (i - 1) (0, 0)).1 = 1 then some (allF (Tree.chk (toP t)) (i + 1) d) else some false) else some (allF (Tree.chk (toP t)) (i + 1) d) := by
      intro b
      unfold spec_l4Ring.j1
      by_cases hb : b = true
      · rw [if_pos hb, if_pos hb]
      · rw [if_neg hb, if_neg hb, wn64s i (by omega)]
        by_cases h : (rd_T87 t (i : Int)).f0 = 7
        · have hi1 := h7i h
          have e1 : wrap64 ((i : Int) - 1) = ((i - 1 : Nat) : Int) := by unfold wrap64; omega
          have g2 := toP_getD t (i - 1) (by omega)
          rw [if_pos h, if_pos h, e1, if_pos (by omega), if_pos (by omega), g2, hstep]
        · rw [if_neg h, if_neg h, hstep]
    generalize allF (Tree.chk (toP t)) (i + 1) d = y at ej ⊢
    simp only [ej]
    generalize ((toP t).getD (i - 1) (0, 0)).1 = z
    generalize (rd_T87 t (i : Int)).f0 = x at hopi ⊢
    by_cases h8 : x = 8
    · subst h8; simp
    · by_cases h9 : x = 9
      · subst h9; simp
      · by_cases h10 : x = 10
        · subst h10; simp
        · by_cases h11 : x = 11
          · subst h11; simp
          · rw [if_neg h8, if_neg h9, if_neg h10, if_neg (by simpa using h11)]
            by_cases h : x = 7
            · subst h
              by_cases hz : z = 1 <;> simp [hz]
            · have : x ≤ 7 := by omega
              simp [h, this]
theorem ring_f (t : List S87) (hn : t.length ≤ 1048576) (k : Nat) (hk : 2 * t.length + 2 < k) : spec_IsRing.f k t = impl_IsRing.f t := by
  unfold spec_IsRing.f impl_IsRing.f
  rw [specGood_f t hn k (by omega), Option.bind_some]
  cases hT : Tree.treeOf (toP t) with
  | none => rfl
  | some T =>
    obtain ⟨hg, hfl, hl⟩ := Tree.treeOf_flat hT
    have h7 := Tree.shl_pos hg
    have hops := (Tree.treeOf_ok (by rw [hT]; rfl)).2.2
    have hch := Tree.chk_flat T.flat.length T (Nat.le_refl _) hg [] []
    rw [List.nil_append, List.append_nil] at hch
    rw [hfl] at h7 hch
    rw [toP_len] at h7 hch
    have hrun := ring_run t hn h7 (fun i hi => by
      have hi' : i < (toP t).length := by rw [toP_len]; exact hi
      rw [List.getD_eq_getElem?_getD, List.getElem?_eq_getElem hi']
      exact (Tree.numOK_op (hops _ (List.getElem_mem hi'))).2) t.length k 0 (by omega) (by omega)
    have e : allF (Tree.chk (toP t)) 0 t.length = T.ring := by
      rw [Bool.eq_iff_iff, allF_iff, ← hch]
      constructor
      · intro h i h1 h2; exact h i (Nat.zero_le _) (by simpa using h2)
      · intro h i h1 h2; exact h i (by simp) (by simpa using h2)
    rw [e] at hrun
    have hrun' : spec_l4Ring.f k t = some T.ring := hrun
    show (if true = true then _ else _) = _
    rw [if_pos rfl, hrun']
    rfl
theorem FnExactIsRing : RdFnExactIsRing.Pure := by
  intro l hl _
  refine ⟨2 * l.length + 10, ?_⟩
  unfold laws_FnExactIsRing.f
  rw [szN_f l 1048576 (by omega) (by omega) hl, Option.bind_some]
  by_cases h : (1048576 : Int) - (l.length : Int) < 0
  · simp only [if_pos h]; rfl
  · have hl2 : l.length ≤ 1048576 := by omega
    have hm : (l.map cvN).length = l.length := List.length_map _
    have hs := ring_f (l.map cvN) (by omega) (2 * l.length + 10) (by omega)
    have t0 := toN_f l hl2 (2 * l.length + 10) (by omega)
    have t1 := toN_f l hl2 (2 * l.length + 9) (by omega)
    have q1 := eqN_f (l.map cvN) (by omega) (2 * l.length + 9) (by omega)
    rw [if_neg h, if_neg h, t0, Option.bind_some, hs]
    have hsome : ∃ p, impl_IsRing.f (l.map cvN) = some p := by
      unfold impl_IsRing.f
      cases Tree.treeOf (toP (l.map cvN)) with
      | none => exact ⟨_, rfl⟩
      | some T => exact ⟨_, rfl⟩
    obtain ⟨p, hp⟩ := hsome
    simp only [hp, Option.bind_some, bne_self_eq_false, Bool.false_eq_true, if_false]
    simp only [laws_FnExactIsRing.j0, t1, q1, Option.bind_some, if_true, Bool.false_eq_true, if_false]

end Go.Proofs.Ytlneknaiimmfmaa.Pure
