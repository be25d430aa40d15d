/- The program's Merge and the reference's answer alike at every graph and every two numbers; no condition. -/
import Derived.Test.YtakblgcheakbnaaPFnExactMergex15
import Derived.Test.YtakblgcheakbnaaRdFnExactMerge
set_option linter.unusedVariables false
set_option linter.unusedSimpArgs false
namespace Go.Proofs.Ytakblgcheakbnaa.Pure
open Go.RowKit Go.Proofs.Ytakblgcheakbnaa.PFnExactMerge Go.Proofs.YtakblgcheakbnaaW.PrintWords Go.Proofs.YtakblgcheakbnaaW.PrintLast Go.Proofs.YtakblgcheakbnaaW.PrintMore

theorem w64 (x : Int) (h0 : -9223372036854775808 ≤ x) (h1 : x ≤ 9223372036854775807) : wrap64 x = x := by unfold wrap64; omega
theorem w64s (i : Nat) (h : i ≤ 140737488355328) : wrap64 ((i : Int) + 1) = ((i + 1 : Nat) : Int) := by rw [w64 _ (by omega) (by omega)]; omega
theorem rd_nat (l : List Int) (i : Nat) : rd l (i : Int) = l.getD i 0 := by simp [rd]
theorem getD_lt (l : List Int) (i : Nat) (h : i < l.length) : l.getD i 0 = l[i] := by simp [List.getD_eq_getElem?_getD, h]

theorem laws_toIntS_run (x0 : List Int) (hn : x0.length ≤ 140737488351232) (d : Nat) : ∀ (k i : Nat) (x3 : List Int), i + d = x0.length → x3.length = x0.length → (∀ j, j < i → x3[j]? = x0[j]?) → d < k →
    laws_toIntS.l0 k x0 x3 (i : Int) = some x0 := by
  induction d with
  | zero =>
    intro k i x3 hi hl hj hk
    obtain ⟨k, rfl⟩ : ∃ m, k = m + 1 := ⟨k - 1, by omega⟩
    simp only [laws_toIntS.l0]
    rw [if_neg (by omega)]
    congr 1
    apply List.ext_getElem?
    intro j
    by_cases h : j < i
    · exact hj j h
    · rw [List.getElem?_eq_none (by omega), List.getElem?_eq_none (by omega)]
  | succ d ih =>
    intro k i x3 hi hl hj hk
    obtain ⟨k, rfl⟩ : ∃ m, k = m + 1 := ⟨k - 1, by omega⟩
    simp only [laws_toIntS.l0]
    rw [if_pos (by omega), if_pos (by omega), if_pos (by omega), w64s i (by omega)]
    refine ih k (i + 1) _ (by omega) (by simpa using hl) ?_ (by omega)
    intro j hji
    rw [Int.toNat_natCast, rd_nat, List.getElem?_set]
    by_cases h : i = j
    · subst h
      rw [if_pos rfl, if_pos (by omega), getD_lt _ _ (by omega), List.getElem?_eq_getElem (by omega)]
    · rw [if_neg h]
      exact hj j (by omega)
theorem laws_toIntS_f (l : List Int) (hn : l.length ≤ 1048576) (k : Nat) (hk : l.length < k) : laws_toIntS.f k l = some l := by
  unfold laws_toIntS.f
  rw [if_pos (by omega), if_pos (by omega)]
  exact laws_toIntS_run l (by omega) l.length k 0 _ (by omega) (by simp) (fun j hj => by omega) hk

theorem laws_eqIntS_run (x0 : List Int) (hn : x0.length ≤ 140737488351232) (d : Nat) : ∀ (k i : Nat), i + d = x0.length → d < k → laws_eqIntS.l0 k x0 x0 (i : Int) = some true := by
  induction d with
  | zero =>
    intro k i hi hk
    obtain ⟨k, rfl⟩ : ∃ m, k = m + 1 := ⟨k - 1, by omega⟩
    simp only [laws_eqIntS.l0]
    rw [if_neg (by omega)]
  | succ d ih =>
    intro k i hi hk
    obtain ⟨k, rfl⟩ : ∃ m, k = m + 1 := ⟨k - 1, by omega⟩
    simp only [laws_eqIntS.l0]
    rw [if_pos (by omega), if_pos (by omega), if_pos (by omega), if_pos trivial, w64s i (by omega)]
    exact ih k (i + 1) (by omega) (by omega)
theorem laws_eqIntS_f (l : List Int) (hn : l.length ≤ 140737488351232) (k : Nat) (hk : l.length < k) : laws_eqIntS.f k l l = some true := by
  unfold laws_eqIntS.f
  rw [if_pos rfl]
  exact laws_eqIntS_run l hn l.length k 0 (by omega) hk

/-- Parts: each number's is at most itself, and its own. -/
def goodAt (l : List Int) (i : Nat) : Prop := 0 ≤ l.getD i 0 ∧ l.getD i 0 ≤ (i : Int) ∧ l.getD (l.getD i 0).toNat 0 = l.getD i 0
instance (l : List Int) (i : Nat) : Decidable (goodAt l i) := by unfold goodAt; infer_instance
def okParts (l : List Int) : Bool := decide ((∀ i : Nat, i < l.length → goodAt l i) ∧ l.length ≤ 200)
theorem rd_int (l : List Int) (x : Int) : rd l x = l.getD x.toNat 0 := rfl
theorem spec_GoodParts_run (x0 : List Int) (hn : x0.length ≤ 200) (d : Nat) : ∀ (k i : Nat), i + d = x0.length → (∀ j : Nat, j < i → goodAt x0 j) → d < k →
    spec_GoodParts.l0 k x0 x0 (x0.length : Int) (i : Int) = some (okParts x0) := by
  induction d with
  | zero =>
    intro k i hi hj hk
    obtain ⟨k, rfl⟩ : ∃ m, k = m + 1 := ⟨k - 1, by omega⟩
    simp only [spec_GoodParts.l0]
    rw [if_neg (by omega)]
    congr 1
    symm
    exact decide_eq_true ⟨fun j hj' => hj j (by omega), hn⟩
  | succ d ih =>
    intro k i hi hj hk
    obtain ⟨k, rfl⟩ : ∃ m, k = m + 1 := ⟨k - 1, by omega⟩
    simp only [spec_GoodParts.l0]
    rw [if_pos (by omega), if_pos (by omega), if_pos (by omega), rd_nat]
    unfold spec_l1In.f
    by_cases h0 : x0.getD i 0 ≥ 0
    · rw [if_pos h0]
      by_cases h1 : x0.getD i 0 ≤ (i : Int)
      · rw [decide_eq_true h1, Option.bind_some, if_pos rfl, if_pos (by omega), if_pos (by omega), w64s i (by omega), rd_int]
        by_cases h2 : x0.getD (x0.getD i 0).toNat 0 = x0.getD i 0
        · rw [if_pos h2]
          exact ih k (i + 1) (by omega) (fun j hj' => by
            by_cases e : j = i
            · subst e; exact ⟨h0, h1, h2⟩
            · exact hj j (by omega)) (by omega)
        · rw [if_neg h2]
          congr 1
          symm
          exact decide_eq_false (fun h => h2 (h.1 i (by omega)).2.2)
      · rw [decide_eq_false h1, Option.bind_some, if_neg (by simp)]
        congr 1
        symm
        exact decide_eq_false (fun h => h1 (h.1 i (by omega)).2.1)
    · rw [if_neg h0, Option.bind_some, if_neg (by simp)]
      congr 1
      symm
      exact decide_eq_false (fun h => h0 (h.1 i (by omega)).1)
theorem spec_GoodParts_f (l : List Int) (k : Nat) (hk : l.length < k) : spec_GoodParts.f k l = some (okParts l) := by
  unfold spec_GoodParts.f
  by_cases h : (l.length : Int) > 200
  · rw [if_pos h]
    congr 1
    symm
    exact decide_eq_false (fun h' => by have := h'.2; omega)
  · rw [if_neg h]
    exact spec_GoodParts_run l (by omega) l.length k 0 (by omega) (fun j hj => by omega) hk
/-- Parents, as the program asks first. -/
def okPar (l : List Int) : Bool := decide ((∀ i : Nat, i < l.length → 0 ≤ l.getD i 0 ∧ l.getD i 0 ≤ (i : Int)) ∧ l.length ≤ 200)
theorem impl_parentsOK_run (x0 : List Int) (hn : x0.length ≤ 140737488351232) (d : Nat) : ∀ (k i : Nat), i + d = x0.length → (∀ j : Nat, j < i → 0 ≤ x0.getD j 0 ∧ x0.getD j 0 ≤ (j : Int)) → d < k →
    impl_parentsOK.l0 k x0 x0 (x0.length : Int) (i : Int) = some (okPar x0) := by
  induction d with
  | zero =>
    intro k i hi hj hk
    obtain ⟨k, rfl⟩ : ∃ m, k = m + 1 := ⟨k - 1, by omega⟩
    simp only [impl_parentsOK.l0]
    rw [if_neg (by omega)]
    congr 1
    unfold okPar
    rw [decide_eq_decide]
    constructor
    · intro h; exact ⟨fun j hj' => hj j (by omega), by omega⟩
    · intro h; have := h.2; omega
  | succ d ih =>
    intro k i hi hj hk
    obtain ⟨k, rfl⟩ : ∃ m, k = m + 1 := ⟨k - 1, by omega⟩
    simp only [impl_parentsOK.l0]
    rw [if_pos (by omega), if_pos (by omega), if_pos (by omega), rd_nat]
    unfold impl_within.f
    by_cases h0 : x0.getD i 0 ≥ 0
    · rw [if_pos h0]
      by_cases h1 : x0.getD i 0 ≤ (i : Int)
      · rw [decide_eq_true h1, Option.bind_some, if_pos rfl, w64s i (by omega)]
        exact ih k (i + 1) (by omega) (fun j hj' => by
          by_cases e : j = i
          · subst e; exact ⟨h0, h1⟩
          · exact hj j (by omega)) (by omega)
      · rw [decide_eq_false h1, Option.bind_some, if_neg (by simp)]
        congr 1
        symm
        exact decide_eq_false (fun h => h1 (h.1 i (by omega)).2)
    · rw [if_neg h0, Option.bind_some, if_neg (by simp)]
      congr 1
      symm
      exact decide_eq_false (fun h => h0 (h.1 i (by omega)).1)
theorem impl_parentsOK_f (l : List Int) (hn : l.length ≤ 140737488351232) (k : Nat) (hk : l.length < k) : impl_parentsOK.f k l = some (okPar l) :=
  impl_parentsOK_run l hn l.length k 0 (by omega) (fun j hj => by omega) hk
theorem impl_GoodParts_f (l : List Int) (hn : l.length ≤ 140737488351232) (k : Nat) (hk : l.length < k) : impl_GoodParts.f k l = some (okParts l) := by
  unfold impl_GoodParts.f
  rw [impl_parentsOK_f l hn k hk, Option.bind_some]
  cases hp : okPar l with
  | false =>
    rw [if_neg (by simp)]
    congr 1
    symm
    exact decide_eq_false (fun h => by
      have : okPar l = true := decide_eq_true ⟨fun i hi => ⟨(h.1 i hi).1, (h.1 i hi).2.1⟩, h.2⟩
      rw [hp] at this; cases this)
  | true =>
    have hp' := of_decide_eq_true hp
    rw [if_pos rfl]
    congr 1
    rw [Bool.eq_iff_iff]
    simp only [Bool.not_eq_true', List.any_eq_false, okParts, decide_eq_true_eq]
    constructor
    · intro h
      refine ⟨fun i hi => ⟨(hp'.1 i hi).1, (hp'.1 i hi).2, ?_⟩, hp'.2⟩
      have := h l[i] (List.getElem_mem hi)
      rw [getD_lt _ _ hi]
      simpa [rd_int] using this
    · intro h x hx
      obtain ⟨i, hi, rfl⟩ := List.getElem_of_mem hx
      have := (h.1 i hi).2.2
      rw [getD_lt _ _ hi] at this
      simpa [rd_int] using this

/-- The parts of which one's name is another's now. -/
def joinedBy (l : List Int) (keep gone : Int) : List Int := l.map fun x => if x = gone then keep else x
theorem join_run (l : List Int) (hn : l.length ≤ 1048576) (keep gone : Int) (d : Nat) : ∀ (i : Nat) (x : List Int), i + d = l.length → x.length = l.length → (∀ j : Nat, j < i → x[j]? = (joinedBy l keep gone)[j]?) → (∀ j : Nat, i ≤ j → x[j]? = l[j]?) → ∀ k, d < k →
    spec_l5Join.l0 k keep gone x l (l.length : Int) (i : Int) = some (joinedBy l keep gone) ∧ impl_joinIn.l0 k x keep gone (l.length : Int) (i : Int) = some ((keep != gone), joinedBy l keep gone) := by
  induction d with
  | zero =>
    intro i x hi hx hj hj2 k hk
    obtain ⟨k, rfl⟩ : ∃ m, k = m + 1 := ⟨k - 1, by omega⟩
    have : x = joinedBy l keep gone := by
      apply List.ext_getElem?
      intro j
      by_cases h : j < i
      · exact hj j h
      · rw [List.getElem?_eq_none (by omega), List.getElem?_eq_none (by simp [joinedBy]; omega)]
    simp only [spec_l5Join.l0, impl_joinIn.l0]
    rw [if_neg (by omega), if_neg (by omega), this]
    exact ⟨rfl, rfl⟩
  | succ d ih =>
    intro i x hi hx hj hj2 k hk
    obtain ⟨k, rfl⟩ : ∃ m, k = m + 1 := ⟨k - 1, by omega⟩
    have hxi : rd x (i : Int) = rd l (i : Int) := by
      rw [rd_nat, rd_nat, List.getD_eq_getElem?_getD, List.getD_eq_getElem?_getD, hj2 i (Nat.le_refl _)]
    have hli : rd l (i : Int) = l[i]'(by omega) := by rw [rd_nat, getD_lt _ _ (by omega)]
    have hM : (joinedBy l keep gone)[i]? = some (if rd l (i : Int) = gone then keep else rd l (i : Int)) := by
      rw [hli]; simp [joinedBy, List.getElem?_eq_getElem (show i < l.length by omega)]
    simp only [spec_l5Join.l0, impl_joinIn.l0, hxi]
    have c1 : (i : Int) < (l.length : Int) := by omega
    have c2 : (i : Int) < (x.length : Int) := by omega
    have c3 : 0 ≤ (i : Int) := by omega
    simp only [if_pos c1, if_pos c2, if_pos c3, w64s i (by omega)]
    by_cases e : rd l (i : Int) = gone
    · simp only [if_pos e]
      refine ih (i + 1) _ (by omega) (by simpa using hx) ?_ ?_ k (by omega)
      · intro j hji
        rw [Int.toNat_natCast, List.getElem?_set]
        by_cases h : i = j
        · subst h
          rw [if_pos rfl, if_pos (by omega), hM, if_pos e]
        · rw [if_neg h]; exact hj j (by omega)
      · intro j hji
        rw [Int.toNat_natCast, List.getElem?_set, if_neg (by omega)]
        exact hj2 j (by omega)
    · simp only [if_neg e]
      refine ih (i + 1) x (by omega) hx ?_ (fun j hji => hj2 j (by omega)) k (by omega)
      intro j hji
      by_cases h : i = j
      · subst h
        rw [hM, if_neg e, hj2 i (Nat.le_refl _), List.getElem?_eq_getElem (by omega), hli]
      · exact hj j (by omega)
theorem most_mx (x y : Int) : spec_l1Most.f x y = some (mx x y) := by
  unfold spec_l1Most.f mx
  by_cases c : x > y
  · rw [if_pos c, if_neg (by omega)]
  · rw [if_neg c]
    by_cases c2 : x < y
    · rw [if_pos c2]
    · rw [if_neg c2, show x = y by omega]
theorem least_mn (x y : Int) : spec_l1Least.f x y = some (mn x y) := by
  unfold spec_l1Least.f mn
  by_cases c : x < y
  · rw [if_pos c, if_neg (by omega)]
  · rw [if_neg c]
    by_cases c2 : y < x
    · rw [if_pos c2]
    · rw [if_neg c2, show x = y by omega]
theorem own_same (l : List Int) (hn : l.length ≤ 1048576) : spec_l1Own.f l = some l := by
  unfold spec_l1Own.f
  rw [Option.bind_some, if_pos (by simp only [List.length_nil]; omega), List.nil_append]
/-- The join of two numbers' parts. -/
def joinOf (l : List Int) (a b : Int) : List Int := joinedBy l (mn (rd l a) (rd l b)) (mx (rd l a) (rd l b))
theorem spec_l5Join_f (l : List Int) (hn : l.length ≤ 1048576) (a b : Int) (ha : 0 ≤ a ∧ a < (l.length : Int)) (hb : 0 ≤ b ∧ b < (l.length : Int)) (k : Nat) (hk : l.length < k) : spec_l5Join.f k l a b = some (joinOf l a b) := by
  unfold spec_l5Join.f
  rw [if_pos ha.1, if_pos ha.2, if_pos hb.1, if_pos hb.2]
  simp only [least_mn, most_mx, own_same l hn, Option.bind_some]
  exact (join_run l hn _ _ l.length 0 l (by omega) rfl (fun j hj => by omega) (fun _ _ => rfl) k hk).1
theorem impl_joinIn_f (l : List Int) (hn : l.length ≤ 1048576) (a b : Int) (ha : 0 ≤ a ∧ a < (l.length : Int)) (hb : 0 ≤ b ∧ b < (l.length : Int)) (k : Nat) (hk : l.length < k) : impl_joinIn.f k l a b = some ((mn (rd l a) (rd l b) != mx (rd l a) (rd l b)), joinOf l a b) := by
  unfold impl_joinIn.f
  rw [if_pos ha.1, if_pos ha.2, if_pos hb.1, if_pos hb.2]
  exact (join_run l hn _ _ l.length 0 l (by omega) rfl (fun j hj => by omega) (fun _ _ => rfl) k hk).2

/-- What markIntS writes: numbers from one on. -/
def marked (xs : List Int) (m : Int) : List Int := (List.range xs.length).map fun j : Nat => m + (j : Int)
theorem laws_markIntS_run (n : Nat) (hn : n ≤ 140737480000000) (m0 : Nat) (hm0 : m0 ≤ 3000000) (d : Nat) : ∀ (k i : Nat) (x : List Int), i + d = n → x.length = n → (∀ j, j < i → x[j]? = some ((m0 : Int) + (j : Int))) → d < k →
    laws_markIntS.l0 k x (((m0 + i : Nat)) : Int) (i : Int) = some (((m0 + n : Nat) : Int), (List.range n).map fun j : Nat => ((m0 : Int) + (j : Int))) := by
  induction d with
  | zero =>
    intro k i x hi hl hj hk
    obtain ⟨k, rfl⟩ : ∃ m, k = m + 1 := ⟨k - 1, by omega⟩
    simp only [laws_markIntS.l0]
    rw [if_neg (by omega)]
    have e : i = n := by omega
    subst e
    congr 2
    apply List.ext_getElem?
    intro j
    by_cases h : j < i
    · rw [hj j h, List.getElem?_map, List.getElem?_range h]; rfl
    · rw [List.getElem?_eq_none (by omega), List.getElem?_eq_none (by simp; omega)]
  | succ d ih =>
    intro k i x hi hl hj hk
    obtain ⟨k, rfl⟩ : ∃ m, k = m + 1 := ⟨k - 1, by omega⟩
    simp only [laws_markIntS.l0]
    rw [if_pos (by omega), if_pos (by omega), w64s i (by omega), w64s (m0 + i) (by omega)]
    refine ih k (i + 1) _ (by omega) (by simpa using hl) ?_ (by omega)
    intro j hji
    rw [Int.toNat_natCast, List.getElem?_set]
    by_cases h : i = j
    · subst h
      rw [if_pos rfl, if_pos (by omega)]
      congr 1
    · rw [if_neg h]
      exact hj j (by omega)
theorem laws_heldIntS_run (n : Nat) (hn : n ≤ 140737480000000) (m0 : Nat) (hm0 : m0 ≤ 3000000) (d : Nat) : ∀ (k i : Nat), i + d = n → d < k →
    laws_heldIntS.l0 k ((List.range n).map fun j : Nat => ((m0 : Int) + (j : Int))) (((m0 + i : Nat)) : Int) (i : Int) = some (((m0 + n : Nat) : Int)) := by
  induction d with
  | zero =>
    intro k i hi hk
    obtain ⟨k, rfl⟩ : ∃ m, k = m + 1 := ⟨k - 1, by omega⟩
    simp only [laws_heldIntS.l0]
    rw [if_neg (by simp; omega)]
    congr 2
    omega
  | succ d ih =>
    intro k i hi hk
    obtain ⟨k, rfl⟩ : ∃ m, k = m + 1 := ⟨k - 1, by omega⟩
    simp only [laws_heldIntS.l0]
    have hr : rd ((List.range n).map fun j : Nat => ((m0 : Int) + (j : Int))) (i : Int) = ((m0 + i : Nat) : Int) := by
      rw [rd_nat, getD_lt _ _ (by simp; omega)]
      simp
    rw [if_pos (by simp; omega), if_pos (by omega), hr, if_pos rfl, w64s i (by omega), w64s (m0 + i) (by omega)]
    exact ih k (i + 1) (by omega) (by omega)
theorem laws_markIntS_f (x : List Int) (hn : x.length ≤ 140737480000000) (k : Nat) (hk : x.length < k) : laws_markIntS.f k x 1 = some (((1 + x.length : Nat) : Int), (List.range x.length).map fun j : Nat => ((1 : Nat) : Int) + (j : Int)) :=
  laws_markIntS_run x.length hn 1 (by omega) x.length k 0 x (by omega) rfl (fun j hj => by omega) hk
theorem laws_heldIntS_f (n : Nat) (hn : n ≤ 140737480000000) (k : Nat) (hk : n < k) : laws_heldIntS.f k ((List.range n).map fun j : Nat => ((1 : Nat) : Int) + (j : Int)) 1 = some (((1 + n : Nat) : Int)) :=
  laws_heldIntS_run n hn 1 (by omega) n k 0 (by omega) hk
theorem laws_markIntS_g (x : List Int) (hn : x.length ≤ 140737480000000) (m0 : Nat) (hm0 : m0 ≤ 3000000) (k : Nat) (hk : x.length < k) : laws_markIntS.f k x (m0 : Int) = some (((m0 + x.length : Nat) : Int), (List.range x.length).map fun j : Nat => (m0 : Int) + (j : Int)) :=
  laws_markIntS_run x.length hn m0 hm0 x.length k 0 x (by omega) rfl (fun j hj => by omega) hk

def cvE (x : S130) : S114 := ⟨x.f0, x.f1, x.f2⟩
theorem szI_f (l : List Int) (m : Int) (hm0 : 0 ≤ m) (hm : m ≤ 1048576) (hl : l.length ≤ 9223372036854775807) : laws_szIntS.f l m = some (if m - (l.length : Int) < 0 then -1 else m - (l.length : Int)) := by
  unfold laws_szIntS.f
  have e : wrap64 (m - (l.length : Int)) = m - (l.length : Int) := by unfold wrap64; omega
  rw [e]
  split <;> rfl
theorem rdLE_nat (l : List S130) (i : Nat) (h : i < l.length) : rd_T130 l (i : Int) = l[i] := by unfold rd_T130; rw [Int.toNat_natCast, List.getD_eq_getElem?_getD, List.getElem?_eq_getElem h]; rfl
theorem rdE_nat (l : List S114) (i : Nat) (h : i < l.length) : rd_T114 l (i : Int) = l[i] := by unfold rd_T114; rw [Int.toNat_natCast, List.getD_eq_getElem?_getD, List.getElem?_eq_getElem h]; rfl
theorem szE_run (x0 : List S130) (hn : x0.length ≤ 1048576) (hin : ∀ x ∈ x0, x.f2.length ≤ 9223372036854775807) (d : Nat) : ∀ (k i : Nat) (m : Int), i + d = x0.length → d < k → 0 ≤ m → m ≤ 1048576 →
    ∃ t, laws_szENodeS.l0 k x0 m (i : Int) = some t ∧ (t < 0 ∨ (0 ≤ t ∧ t + ((((x0.drop i).map fun x => x.f2.length).sum : Nat) : Int) = m ∧ ∀ j, i ≤ j → (h : j < x0.length) → x0[j].f2.length ≤ 1048576)) := by
  induction d with
  | zero =>
    intro k i m hi hk h0 h1
    obtain ⟨k, rfl⟩ : ∃ j, k = j + 1 := ⟨k - 1, by omega⟩
    simp only [laws_szENodeS.l0]
    rw [if_neg (by omega)]
    exact ⟨_, rfl, .inr ⟨h0, by rw [List.drop_of_length_le (by omega)]; simp, fun j hj h => by omega⟩⟩
  | succ d ih =>
    intro k i m hi hk h0 h1
    obtain ⟨k, rfl⟩ : ∃ j, k = j + 1 := ⟨k - 1, by omega⟩
    have hil : i < x0.length := by omega
    have hx := hin _ (List.getElem_mem hil)
    simp only [laws_szENodeS.l0]
    rw [if_pos (by omega), if_pos (by omega), rdLE_nat _ i hil]
    unfold laws_szENode.f
    rw [szI_f _ m h0 h1 hx, Option.bind_some]
    by_cases hneg : m - (x0[i].f2.length : Int) < 0
    · rw [if_pos hneg, if_pos (by omega), Option.bind_some, if_pos (by omega)]
      exact ⟨_, rfl, .inl (by omega)⟩
    · rw [if_neg hneg, if_neg (by omega), Option.bind_some, if_neg (by omega), w64s i (by omega)]
      obtain ⟨t, ht, hh⟩ := ih k (i + 1) (m - (x0[i].f2.length : Int)) (by omega) (by omega) (by omega) (by omega)
      refine ⟨t, ht, hh.imp id (fun h => ⟨h.1, by have h2 := h.2.1; rw [List.drop_eq_getElem_cons hil, List.map_cons, List.sum_cons]; omega, fun j hj hjl => ?_⟩)⟩
      by_cases e : j = i
      · subst e; omega
      · exact h.2.2 j (by omega) hjl
theorem szE_f (l : List S130) (m : Int) (h0 : 0 ≤ m) (hm : m ≤ 1048576) (hl : l.length ≤ 9223372036854775807) (hin : ∀ x ∈ l, x.f2.length ≤ 9223372036854775807) (k : Nat) (hk : 1048576 < k) : ∃ t, laws_szENodeS.f k l m = some t ∧ (t < 0 ∨ (0 ≤ t ∧ t ≤ 1048576 ∧ l.length ≤ 1048576 ∧ (∀ x ∈ l, x.f2.length ≤ 1048576) ∧ (l.map fun x => x.f2.length).sum ≤ 1048576)) := by
  unfold laws_szENodeS.f
  have e : wrap64 (m - (l.length : Int)) = m - (l.length : Int) := by unfold wrap64; omega
  rw [e]
  by_cases h : m - (l.length : Int) < 0
  · rw [if_pos h]; exact ⟨_, rfl, .inl (by omega)⟩
  · rw [if_neg h]
    obtain ⟨t, ht, hh⟩ := szE_run l (by omega) hin l.length k 0 (m - (l.length : Int)) (by omega) (by omega) (by omega) (by omega)
    refine ⟨t, ht, hh.imp id (fun h => ?_)⟩
    have h2 := h.2.1
    rw [List.drop_zero] at h2
    refine ⟨h.1, by omega, by omega, fun x hx => ?_, by omega⟩
    obtain ⟨j, hj, rfl⟩ := List.getElem_of_mem hx
    exact h.2.2 j (Nat.zero_le _) hj
theorem toE_run (x0 : List S130) (hn : x0.length ≤ 1048576) (hin : ∀ x ∈ x0, x.f2.length ≤ 1048576) (d : Nat) : ∀ (k i : Nat) (x3 : List S114), i + d = x0.length → x3.length = x0.length → (∀ j, j < i → x3[j]? = (x0.map cvE)[j]?) → d + 1048577 < k →
    laws_toENodeS.l0 k x0 x3 (i : Int) = some (x0.map cvE) := by
  induction d with
  | zero =>
    intro k i x3 hi hl hj hk
    obtain ⟨k, rfl⟩ : ∃ m, k = m + 1 := ⟨k - 1, by omega⟩
    simp only [laws_toENodeS.l0]
    rw [if_neg (by omega)]
    congr 1
    apply List.ext_getElem?
    intro j
    by_cases h : j < i
    · exact hj j h
    · rw [List.getElem?_eq_none (by omega), List.getElem?_eq_none (by rw [List.length_map]; omega)]
  | succ d ih =>
    intro k i x3 hi hl hj hk
    obtain ⟨k, rfl⟩ : ∃ m, k = m + 1 := ⟨k - 1, by omega⟩
    have hil : i < x0.length := by omega
    have hx := hin _ (List.getElem_mem hil)
    simp only [laws_toENodeS.l0]
    rw [if_pos (by omega), if_pos (by omega), rdLE_nat _ i hil]
    unfold laws_toENode.f
    rw [laws_toIntS_f _ hx k (by omega), Option.bind_some, Option.bind_some, if_pos (by omega), w64s i (by omega)]
    refine ih k (i + 1) _ (by omega) (by simpa using hl) ?_ (by omega)
    intro j hji
    rw [Int.toNat_natCast, List.getElem?_set]
    by_cases h : i = j
    · subst h
      rw [if_pos rfl, if_pos (by omega), List.getElem?_map, List.getElem?_eq_getElem hil]
      rfl
    · rw [if_neg h]
      exact hj j (by omega)
theorem toE_f (l : List S130) (hn : l.length ≤ 1048576) (hin : ∀ x ∈ l, x.f2.length ≤ 1048576) (k : Nat) (hk : 2097160 < k) : laws_toENodeS.f k l = some (l.map cvE) := by
  unfold laws_toENodeS.f
  rw [if_pos (by omega), if_pos (by omega)]
  exact toE_run l hn hin l.length k 0 _ (by omega) (by simp) (fun j hj => by omega) (by omega)
theorem eqE_run (x0 : List S114) (hn : x0.length ≤ 1048576) (hin : ∀ x ∈ x0, x.f2.length ≤ 1048576) (d : Nat) : ∀ (k i : Nat), i + d = x0.length → d + 1048577 < k → laws_eqENodeS.l0 k x0 x0 (i : Int) = some true := by
  induction d with
  | zero =>
    intro k i hi hk
    obtain ⟨k, rfl⟩ : ∃ m, k = m + 1 := ⟨k - 1, by omega⟩
    simp only [laws_eqENodeS.l0]
    rw [if_neg (by omega)]
  | succ d ih =>
    intro k i hi hk
    obtain ⟨k, rfl⟩ : ∃ m, k = m + 1 := ⟨k - 1, by omega⟩
    have hil : i < x0.length := by omega
    have hx := hin _ (List.getElem_mem hil)
    simp only [laws_eqENodeS.l0]
    rw [if_pos (by omega), if_pos (by omega), if_pos (by omega), rdE_nat _ i hil]
    unfold laws_eqENode.f
    rw [laws_eqIntS_f _ (by omega) k (by omega), if_pos rfl, if_pos rfl, Option.bind_some, if_pos rfl, Option.bind_some, if_pos rfl, w64s i (by omega)]
    exact ih k (i + 1) (by omega) (by omega)
theorem eqE_f (l : List S114) (hn : l.length ≤ 1048576) (hin : ∀ x ∈ l, x.f2.length ≤ 1048576) (k : Nat) (hk : 2097160 < k) : laws_eqENodeS.f k l l = some true := by
  unfold laws_eqENodeS.f
  rw [if_pos rfl]
  exact eqE_run l hn hin l.length k 0 (by omega) (by omega)
theorem cvE_len (l : List S130) (hin : ∀ x ∈ l, x.f2.length ≤ 1048576) : ∀ x ∈ l.map cvE, x.f2.length ≤ 1048576 := fun x hx => by
  obtain ⟨y, hy, rfl⟩ := List.mem_map.1 hx
  exact hin y hy

theorem szG_f (n : List S130) (p : List Int) (m : Int) (h0 : 0 ≤ m) (hm : m ≤ 1048576) (hl : n.length ≤ 9223372036854775807) (hin : ∀ x ∈ n, x.f2.length ≤ 9223372036854775807) (hp : p.length ≤ 9223372036854775807) (k : Nat) (hk : 1048576 < k) : ∃ t, laws_szEGraph.f k n p m = some t ∧ (t < 0 ∨ (0 ≤ t ∧ t ≤ 1048576 ∧ n.length ≤ 1048576 ∧ (∀ x ∈ n, x.f2.length ≤ 1048576) ∧ p.length ≤ 1048576 ∧ (n.map fun x => x.f2.length).sum ≤ 1048576)) := by
  unfold laws_szEGraph.f
  obtain ⟨t, ht, hh⟩ := szE_f n m h0 hm hl hin k hk
  rw [ht, Option.bind_some]
  by_cases h : t < 0
  · rw [if_pos h]; exact ⟨_, rfl, .inl (by omega)⟩
  · obtain ⟨a, b, c, d, e⟩ := hh.resolve_left h
    rw [if_neg h, szI_f p t a b hp, Option.bind_some]
    by_cases h' : t - (p.length : Int) < 0
    · rw [if_pos h', if_pos (by omega)]; exact ⟨_, rfl, .inl (by omega)⟩
    · rw [if_neg h', if_neg h']; exact ⟨_, rfl, .inr ⟨by omega, by omega, c, d, by omega, e⟩⟩
theorem toG_f (n : List S130) (p : List Int) (hn : n.length ≤ 1048576) (hin : ∀ x ∈ n, x.f2.length ≤ 1048576) (hp : p.length ≤ 1048576) (k : Nat) (hk : 2097160 < k) : laws_toEGraph.f k n p = some (n.map cvE, p) := by
  unfold laws_toEGraph.f
  rw [toE_f n hn hin k hk, Option.bind_some, laws_toIntS_f p hp k (by omega)]
  rfl
theorem eqG_f (n : List S114) (p : List Int) (hn : n.length ≤ 1048576) (hin : ∀ x ∈ n, x.f2.length ≤ 1048576) (hp : p.length ≤ 1048576) (k : Nat) (hk : 2097160 < k) : laws_eqEGraph.f k n p n p = some true := by
  unfold laws_eqEGraph.f
  rw [eqE_f n hn hin k hk, Option.bind_some, if_pos rfl, laws_eqIntS_f p (by omega) k (by omega)]
  rfl

/-- A test at d places from i on. -/
def allB (p : Nat → Bool) : Nat → Nat → Bool
  | _, 0 => true
  | i, d + 1 => p i && allB p (i + 1) d
theorem allB_iff (p : Nat → Bool) (d : Nat) : ∀ i, allB p i d = true ↔ ∀ j, i ≤ j → j < i + d → p j = true := by
  induction d with
  | zero => intro i; exact ⟨fun _ j h1 h2 => by omega, fun _ => rfl⟩
  | succ d ih =>
    intro i
    simp only [allB, Bool.and_eq_true, ih (i + 1)]
    constructor
    · intro h j h1 h2
      by_cases e : j = i
      · subst e; exact h.1
      · exact h.2 j (by omega) (by omega)
    · intro h
      exact ⟨h i (Nat.le_refl _) (by omega), fun j h1 h2 => h j (by omega) (by omega)⟩
theorem allB_congr {p q : Nat → Bool} (d : Nat) : ∀ i, (∀ j, i ≤ j → j < i + d → p j = q j) → allB p i d = allB q i d := by
  induction d with
  | zero => intro i _; rfl
  | succ d ih =>
    intro i h
    simp only [allB]
    rw [h i (Nat.le_refl _) (by omega), ih (i + 1) (fun j h1 h2 => h j (by omega) (by omega))]

/-- A node is right, its kids below a number. -/
def enOK (x : S114) (k : Nat) : Bool := (Tree.numOK x.f0 x.f1 && ((x.f2.length : Int) == Tree.arity x.f0)) && x.f2.all fun c => decide (0 ≤ c ∧ c < (k : Int))
def loose (l : List S114) : Bool := allB (fun i => enOK (l.getD i z114) i) 0 l.length && decide (l.length ≤ 120)
theorem rdE_getD (l : List S114) (i : Nat) : rd_T114 l (i : Int) = l.getD i z114 := by unfold rd_T114; rw [Int.toNat_natCast]
theorem outB_eq (kids : List Int) (k : Nat) (hk : k ≤ 1048576) : (!outB kids (k : Int)) = kids.all fun c => decide (0 ≤ c ∧ c < (k : Int)) := by
  unfold outB
  have e : wrap64 ((k : Int) - 1) = (k : Int) - 1 := by unfold wrap64; omega
  rw [e]
  induction kids with
  | nil => rfl
  | cons x t ih =>
    rw [List.any_cons, List.all_cons, ← ih, Bool.not_or, Bool.not_not]
    congr 1
    rw [decide_eq_decide]; omega
theorem enodeOK_f (x : S114) (k : Nat) (hk : k ≤ 1048576) : impl_enodeOK.f x.f0 x.f1 x.f2 (k : Int) = some (enOK x k) := by
  unfold impl_enodeOK.f enOK
  rw [outB_eq _ k hk, Bool.and_assoc]
theorem looseOK_run (l : List S114) (hl : l.length ≤ 1048576) (d : Nat) : ∀ (k i : Nat), i + d = l.length → d < k →
    impl_looseOK.l0 k l l (l.length : Int) (i : Int) = some (allB (fun i => enOK (l.getD i z114) i) i d && decide (l.length ≤ 120)) := by
  induction d with
  | zero =>
    intro k i hi hk
    obtain ⟨k, rfl⟩ : ∃ m, k = m + 1 := ⟨k - 1, by omega⟩
    simp only [impl_looseOK.l0, allB]
    rw [if_neg (by omega), Bool.true_and]
    congr 1
    rw [decide_eq_decide]; omega
  | succ d ih =>
    intro k i hi hk
    obtain ⟨k, rfl⟩ : ∃ m, k = m + 1 := ⟨k - 1, by omega⟩
    simp only [impl_looseOK.l0, allB]
    rw [if_pos (by omega), if_pos (by omega), if_pos (by omega), rdE_getD, enodeOK_f _ i (by omega), Option.bind_some, w64s i (by omega), ih k (i + 1) (by omega) (by omega)]
    cases enOK (l.getD i z114) i <;> rfl
theorem looseOK_f (l : List S114) (hl : l.length ≤ 1048576) (k : Nat) (hk : l.length < k) : impl_looseOK.f k l = some (loose l) := by
  unfold impl_looseOK.f loose
  exact looseOK_run l hl l.length k 0 (by omega) hk
theorem specArity_f (k : Nat) (hk : 0 < k) (op : Int) : spec_l1Arity.f k op = some (if 1 ≤ op ∧ op ≤ 11 then Tree.arity op else -1) := by
  obtain ⟨k, rfl⟩ : ∃ m, k = m + 1 := ⟨k - 1, by omega⟩
  unfold spec_l1Arity.f Tree.arity
  by_cases h1 : op = 1
  · subst h1; rfl
  · rw [if_neg h1]
    by_cases h2 : op = 2
    · subst h2; rfl
    · rw [if_neg (by omega : ¬ (op = 1 ∨ op = 2))]
      simp only [spec_l1Arity.j0]
      rw [if_neg (by simpa using h2)]
      by_cases h3 : op = 3
      · subst h3; rfl
      · rw [if_neg h3, if_neg h3]
        by_cases h4 : op = 11
        · subst h4; rfl
        · rw [if_neg h4, if_neg h4]
          unfold spec_l1In.f
          by_cases h5 : op ≥ 4
          · by_cases h6 : op ≤ 10
            · rw [if_pos h5, Option.bind_some, decide_eq_true h6, if_pos rfl, if_pos (by omega)]
            · rw [if_pos h5, Option.bind_some, decide_eq_false h6, if_neg (by simp), if_neg (by omega)]
          · rw [if_neg h5, Option.bind_some, if_neg (by simp), if_neg (by omega)]
theorem l6Node_f (op n : Int) (kids : List Int) (k : Nat) (hk : 0 < k) : spec_l6Node.f k op n kids = some (Tree.numOK op n && ((kids.length : Int) == Tree.arity op)) := by
  unfold spec_l6Node.f
  rw [specArity_f k hk, Option.bind_some]
  obtain ⟨k, rfl⟩ : ∃ m, k = m + 1 := ⟨k - 1, by omega⟩
  have hr := Tree.arity_range op
  by_cases hop : 1 ≤ op ∧ op ≤ 11
  · rw [if_pos hop, if_neg (by omega)]
    simp only [spec_l6Node.j0]
    by_cases hl : (kids.length : Int) = Tree.arity op
    · rw [bne_eq_false_iff_eq.2 hl, if_neg (by simp), beq_iff_eq.2 hl, Bool.and_true]
      unfold Tree.numOK
      by_cases h1 : op = 1
      · rw [if_pos h1, if_pos h1]
      · rw [if_neg h1, if_neg h1]
        by_cases h2 : op = 2
        · rw [if_pos h2, if_pos h2]
          by_cases h3 : n ≥ 0
          · rw [if_pos h3]; congr 1; rw [decide_eq_decide]; omega
          · rw [if_neg h3, decide_eq_false (by omega)]
        · rw [if_neg h2, if_neg h2]
          congr 1
          rw [Bool.eq_iff_iff]; simp; omega
    · rw [bne_iff_ne.2 hl, if_pos rfl, beq_eq_false_iff_ne.2 hl, Bool.and_false]
  · rw [if_neg hop, if_pos (by omega)]
    simp only [spec_l6Node.j0]
    rw [if_pos trivial]
    unfold Tree.numOK
    rw [if_neg (by omega), if_neg (by omega), decide_eq_false (by omega), Bool.false_and]
theorem l1In_f (a b c : Int) : spec_l1In.f a b c = some (decide (b ≤ a ∧ a ≤ c)) := by
  unfold spec_l1In.f
  by_cases h : a ≥ b
  · rw [if_pos h]; congr 1; rw [decide_eq_decide]; omega
  · rw [if_neg h, decide_eq_false (by omega)]
theorem l1All_run (l : List Int) (lo hi : Int) (hl : l.length ≤ 1048576) (d : Nat) : ∀ (k i : Nat), i + d = l.length → d < k → spec_l1All.l0 k lo hi l (l.length : Int) (i : Int) = some ((l.drop i).all fun c => decide (lo ≤ c ∧ c ≤ hi)) := by
  induction d with
  | zero =>
    intro k i hi' hk
    obtain ⟨k, rfl⟩ : ∃ m, k = m + 1 := ⟨k - 1, by omega⟩
    simp only [spec_l1All.l0]
    rw [if_neg (by omega), List.drop_of_length_le (by omega)]
    rfl
  | succ d ih =>
    intro k i hi' hk
    obtain ⟨k, rfl⟩ : ∃ m, k = m + 1 := ⟨k - 1, by omega⟩
    have hil : i < l.length := by omega
    simp only [spec_l1All.l0]
    rw [if_pos (by omega), if_pos (by omega), if_pos (by omega), l1In_f, Option.bind_some, w64s i (by omega), ih k (i + 1) (by omega) (by omega), List.drop_eq_getElem_cons hil, List.all_cons, rd_nat, getD_lt l i hil]
    cases decide (lo ≤ l[i] ∧ l[i] ≤ hi) <;> rfl
theorem l1All_f (l : List Int) (lo hi : Int) (hl : l.length ≤ 1048576) (k : Nat) (hk : l.length < k) : spec_l1All.f k l lo hi = some (l.all fun c => decide (lo ≤ c ∧ c ≤ hi)) := by
  unfold spec_l1All.f
  have := l1All_run l lo hi hl l.length k 0 (by omega) hk
  rw [List.drop_zero] at this
  exact this
theorem l6Nodes_run (l : List S114) (hl : l.length ≤ 1048576) (hin : ∀ x ∈ l, x.f2.length ≤ 1048576) (d : Nat) : ∀ (k i : Nat), i + d = l.length → d + 1048577 < k →
    spec_l6Nodes.l0 k l (l.length : Int) (i : Int) = some (allB (fun i => enOK (l.getD i z114) i) i d) := by
  induction d with
  | zero =>
    intro k i hi hk
    obtain ⟨k, rfl⟩ : ∃ m, k = m + 1 := ⟨k - 1, by omega⟩
    simp only [spec_l6Nodes.l0, allB]
    rw [if_neg (by omega)]
  | succ d ih =>
    intro k i hi hk
    obtain ⟨k, rfl⟩ : ∃ m, k = m + 1 := ⟨k - 1, by omega⟩
    have hil : i < l.length := by omega
    have hx : (l.getD i z114).f2.length ≤ 1048576 := by
      rw [List.getD_eq_getElem?_getD, List.getElem?_eq_getElem hil]
      exact hin _ (List.getElem_mem hil)
    have e : wrap64 ((i : Int) - 1) = (i : Int) - 1 := by unfold wrap64; omega
    simp only [spec_l6Nodes.l0, allB]
    rw [if_pos (by omega), if_pos (by omega), if_pos (by omega), rdE_getD, l6Node_f _ _ _ k (by omega), Option.bind_some, w64s i (by omega), ih k (i + 1) (by omega) (by omega), e, l1All_f _ _ _ hx k (by omega)]
    have e2 : (fun c : Int => decide (0 ≤ c ∧ c ≤ (i : Int) - 1)) = fun c => decide (0 ≤ c ∧ c < (i : Int)) := by
      funext c; rw [decide_eq_decide]; omega
    rw [e2]
    unfold enOK
    generalize l.getD i z114 = x
    cases (Tree.numOK x.f0 x.f1 && ((x.f2.length : Int) == Tree.arity x.f0)) with
    | false => rfl
    | true =>
      rw [if_pos rfl, Option.bind_some]
      cases (x.f2.all fun c => decide (0 ≤ c ∧ c < (i : Int))) <;> rfl
theorem l6Nodes_f (l : List S114) (hl : l.length ≤ 1048576) (hin : ∀ x ∈ l, x.f2.length ≤ 1048576) (k : Nat) (hk : 2097160 < k) : spec_l6Nodes.f k l = some (loose l) := by
  unfold spec_l6Nodes.f loose
  by_cases h : (l.length : Int) > 120
  · rw [if_pos h, decide_eq_false (by omega), Bool.and_false]
  · rw [if_neg h, decide_eq_true (by omega), Bool.and_true]
    exact l6Nodes_run l hl hin l.length k 0 (by omega) (by omega)
theorem loose_at {l : List S114} (h : loose l = true) (i : Nat) (hi : i < l.length) : enOK (l.getD i z114) i = true := by
  unfold loose at h
  rw [Bool.and_eq_true, allB_iff] at h
  exact h.1 i (Nat.zero_le _) (by omega)
theorem loose_len {l : List S114} (h : loose l = true) : l.length ≤ 120 := by
  unfold loose at h
  rw [Bool.and_eq_true] at h
  exact of_decide_eq_true h.2
theorem enOK_kids {x : S114} {k : Nat} (h : enOK x k = true) : x.f2.length ≤ 3 ∧ ∀ c ∈ x.f2, 0 ≤ c ∧ c < (k : Int) := by
  unfold enOK at h
  simp only [Bool.and_eq_true, beq_iff_eq, List.all_eq_true, decide_eq_true_eq] at h
  have := Tree.arity_range x.f0
  exact ⟨by omega, h.2⟩
/-- Two nodes are the same. -/
def sameE (x y : S114) : Bool := (x.f0 == y.f0 && x.f1 == y.f1) && x.f2 == y.f2
theorem l1Same_run (a b : List Int) (hab : a.length = b.length) (hl : a.length ≤ 1048576) (d : Nat) : ∀ (k i : Nat), i + d = a.length → d < k → spec_l1Same.l0 k a b (a.length : Int) (i : Int) = some (a.drop i == b.drop i) := by
  induction d with
  | zero =>
    intro k i hi hk
    obtain ⟨k, rfl⟩ : ∃ m, k = m + 1 := ⟨k - 1, by omega⟩
    simp only [spec_l1Same.l0]
    rw [if_neg (by omega), List.drop_of_length_le (by omega), List.drop_of_length_le (by omega)]
    rfl
  | succ d ih =>
    intro k i hi hk
    obtain ⟨k, rfl⟩ : ∃ m, k = m + 1 := ⟨k - 1, by omega⟩
    have ha : i < a.length := by omega
    have hb : i < b.length := by omega
    simp only [spec_l1Same.l0]
    rw [if_pos (by omega), if_pos (by omega), if_pos (by omega), if_pos (by omega), rd_nat, rd_nat, getD_lt a i ha, getD_lt b i hb, w64s i (by omega), ih k (i + 1) (by omega) (by omega), List.drop_eq_getElem_cons ha, List.drop_eq_getElem_cons hb]
    by_cases h : a[i] = b[i]
    · rw [if_pos h, h]; congr 1; rw [Bool.eq_iff_iff, beq_iff_eq, beq_iff_eq]; exact ⟨fun e => by rw [e], fun e => (List.cons.inj e).2⟩
    · rw [if_neg h]; congr 1; symm; rw [beq_eq_false_iff_ne]; intro e; exact h (List.cons.inj e).1
theorem l1Same_f (a b : List Int) (hl : a.length ≤ 1048576) (k : Nat) (hk : a.length < k) : spec_l1Same.f k a b = some (a == b) := by
  unfold spec_l1Same.f
  by_cases h : a.length = b.length
  · rw [if_pos (by omega)]
    have := l1Same_run a b h hl a.length k 0 (by omega) hk
    rw [List.drop_zero, List.drop_zero] at this
    exact this
  · rw [if_neg (by omega)]; congr 1; symm; rw [beq_eq_false_iff_ne]; intro e; exact h (by rw [e])
theorem Equal_eq : ∀ (k : Nat) (a b : List Int) (c d : Int), slices_Equal_int_int.l0 k a b c d = spec_l1Same.l0 k a b c d := by
  intro k
  induction k with
  | zero => intros; rfl
  | succ k ih => intro a b c d; simp only [slices_Equal_int_int.l0, spec_l1Same.l0, ih]
theorem Equal_f (a b : List Int) (hl : a.length ≤ 1048576) (k : Nat) (hk : a.length < k) : slices_Equal_int_int.f k a b = some (a == b) := by
  have := l1Same_f a b hl k hk
  unfold spec_l1Same.f at this
  unfold slices_Equal_int_int.f
  rw [Equal_eq]
  exact this
theorem specAlike_f (x y : S114) (hl : x.f2.length ≤ 1048576) (k : Nat) (hk : x.f2.length < k) : spec_l6Alike.f k x.f0 x.f1 x.f2 y.f0 y.f1 y.f2 = some (sameE x y) := by
  unfold spec_l6Alike.f sameE
  rw [l1Same_f _ _ hl k hk]
  by_cases h0 : x.f0 = y.f0
  · rw [if_pos h0, beq_iff_eq.2 h0]
    by_cases h1 : x.f1 = y.f1
    · rw [if_pos h1, beq_iff_eq.2 h1]; rfl
    · rw [if_neg h1, beq_eq_false_iff_ne.2 h1]; rfl
  · rw [if_neg h0, beq_eq_false_iff_ne.2 h0]; rfl
theorem implAlike_f (x y : S114) (hl : x.f2.length ≤ 1048576) (k : Nat) (hk : x.f2.length < k) : impl_alike.f k x.f0 x.f1 x.f2 y.f0 y.f1 y.f2 = some (sameE x y) := by
  unfold impl_alike.f sameE
  rw [Equal_f _ _ hl k hk]
  by_cases h0 : x.f0 = y.f0
  · rw [if_pos h0, beq_iff_eq.2 h0]
    by_cases h1 : x.f1 = y.f1
    · rw [if_pos h1, beq_iff_eq.2 h1]; rfl
    · rw [if_neg h1, beq_eq_false_iff_ne.2 h1]; rfl
  · rw [if_neg h0, beq_eq_false_iff_ne.2 h0]; rfl
/-- What a graph must obey at a node. -/
def pairOK (nodes : List S114) (parts : List Int) (j i : Nat) : Bool := !(sameE (nodes.getD j z114) (nodes.getD i z114)) || (parts.getD i 0 == parts.getD j 0)
def bodyOK (nodes : List S114) (parts : List Int) (j : Nat) : Bool := ((nodes.getD j z114).f2.all fun c => rd parts c == c) && allB (pairOK nodes parts j) 0 j
def goodG (nodes : List S114) (parts : List Int) : Bool := ((decide (parts.length = nodes.length) && loose nodes) && okParts parts) && allB (bodyOK nodes parts) 0 nodes.length
theorem specGG_l2 (nodes : List S114) (parts : List Int) (hlen : parts.length = nodes.length) (hn : nodes.length ≤ 120) (j : Nat) (hj : j < nodes.length) (x : S114) (hxj : nodes.getD j z114 = x) (hx : x.f2.length ≤ 3) (d : Nat) : ∀ (k i : Nat), i + d = j → 3 < k →
    spec_GoodGraph.l2 (k + d + 1) (j : Int) (i : Int) nodes (nodes.length : Int) (j : Int) nodes parts x.f0 x.f1 x.f2 = if allB (pairOK nodes parts j) i d = true then spec_GoodGraph.l0 k nodes (nodes.length : Int) ((j + 1 : Nat) : Int) nodes parts else some false := by
  induction d with
  | zero =>
    intro k i hi hk
    simp only [spec_GoodGraph.l2, allB]
    rw [if_neg (by omega), if_pos trivial, w64s j (by omega)]
  | succ d ih =>
    intro k i hi hk
    obtain ⟨K, hK⟩ : ∃ K, K = k + d + 1 := ⟨_, rfl⟩
    rw [show k + (d + 1) + 1 = K + 1 by omega]
    have ihh := ih k (i + 1) (by omega) hk
    rw [← hK] at ihh
    simp only [spec_GoodGraph.l2]
    rw [if_pos (by omega), if_pos (by omega), if_pos (by omega), rdE_getD, specAlike_f x _ (by omega) K (by omega), Option.bind_some, w64s i (by omega), ihh, rd_nat, rd_nat]
    have hp : pairOK nodes parts j i = (!(sameE x (nodes.getD i z114)) || (parts.getD i 0 == parts.getD j 0)) := by unfold pairOK; rw [hxj]
    have hab : allB (pairOK nodes parts j) i (d + 1) = (pairOK nodes parts j i && allB (pairOK nodes parts j) (i + 1) d) := rfl
    rw [hab, hp]
    cases sameE x (nodes.getD i z114) with
    | false => rw [if_neg (by simp)]; simp
    | true =>
      rw [if_pos rfl, if_pos (by omega), if_pos (by omega), if_pos (by omega)]
      by_cases h : parts.getD i 0 = parts.getD j 0
      · rw [if_pos h, beq_iff_eq.2 h]; simp
      · rw [if_neg h, beq_eq_false_iff_ne.2 h]; simp
theorem specGG_l1 (nodes : List S114) (parts : List Int) (j : Nat) (kids : List Int) (hkl : kids.length ≤ 3) (hin : ∀ c ∈ kids, 0 ≤ c ∧ c < (parts.length : Int)) (a b : Int) (d : Nat) : ∀ (k i : Nat), i + d = kids.length →
    spec_GoodGraph.l1 (k + d + 1) (j : Int) nodes (nodes.length : Int) (j : Int) kids (kids.length : Int) (i : Int) nodes parts a b kids = if ((kids.drop i).all fun c => rd parts c == c) = true then spec_GoodGraph.l2 k (j : Int) 0 nodes (nodes.length : Int) (j : Int) nodes parts a b kids else some false := by
  induction d with
  | zero =>
    intro k i hi
    simp only [spec_GoodGraph.l1]
    rw [if_neg (by omega), List.drop_of_length_le (by omega)]
    rfl
  | succ d ih =>
    intro k i hi
    have hil : i < kids.length := by omega
    have hc := hin _ (List.getElem_mem hil)
    obtain ⟨K, hK⟩ : ∃ K, K = k + d + 1 := ⟨_, rfl⟩
    rw [show k + (d + 1) + 1 = K + 1 by omega]
    have ihh := ih k (i + 1) (by omega)
    rw [← hK] at ihh
    simp only [spec_GoodGraph.l1]
    rw [if_pos (by omega), if_pos (by omega), if_pos (by omega), rd_nat, getD_lt kids i hil, if_pos hc.1, if_pos hc.2, w64s i (by omega), ihh, List.drop_eq_getElem_cons hil, List.all_cons]
    by_cases h : rd parts kids[i] = kids[i]
    · rw [if_pos h, beq_iff_eq.2 h, Bool.true_and]
    · rw [if_neg h, beq_eq_false_iff_ne.2 h, Bool.false_and]; rfl
theorem specGG_l0 (nodes : List S114) (parts : List Int) (hlen : parts.length = nodes.length) (hlo : loose nodes = true) (d : Nat) : ∀ (k i : Nat), i + d = nodes.length → 140 * d + 140 ≤ k →
    spec_GoodGraph.l0 k nodes (nodes.length : Int) (i : Int) nodes parts = some (allB (bodyOK nodes parts) i d) := by
  have hn := loose_len hlo
  induction d with
  | zero =>
    intro k i hi hk
    obtain ⟨k, rfl⟩ : ∃ m, k = m + 1 := ⟨k - 1, by omega⟩
    simp only [spec_GoodGraph.l0, allB]
    rw [if_neg (by omega)]
  | succ d ih =>
    intro k i hi hk
    have hil : i < nodes.length := by omega
    have hx := enOK_kids (loose_at hlo i hil)
    obtain ⟨x, hxe⟩ : ∃ x, nodes.getD i z114 = x := ⟨_, rfl⟩
    rw [hxe] at hx
    obtain ⟨k, rfl⟩ : ∃ m, k = ((m + i + 1) + x.f2.length + 1) + 1 := ⟨k - i - x.f2.length - 3, by omega⟩
    simp only [spec_GoodGraph.l0, allB]
    have h2 := specGG_l2 nodes parts hlen hn i hil x hxe hx.1 i k 0 (by omega) (by omega)
    rw [if_pos (by omega), if_pos (by omega), if_pos (by omega), rdE_getD, hxe]
    have h1 := specGG_l1 nodes parts i x.f2 hx.1 (fun c hc => by have := hx.2 c hc; omega) x.f0 x.f1 x.f2.length (k + i + 1) 0 (by omega)
    rw [List.drop_zero] at h1
    refine h1.trans ?_
    have hb : bodyOK nodes parts i = ((x.f2.all fun c => rd parts c == c) && allB (pairOK nodes parts i) 0 i) := by unfold bodyOK; rw [hxe]
    rw [hb]
    cases (x.f2.all fun c => rd parts c == c) with
    | false => rfl
    | true =>
      rw [if_pos rfl, Bool.true_and]
      refine h2.trans ?_
      cases allB (pairOK nodes parts i) 0 i with
      | false => rfl
      | true => rw [if_pos rfl, Bool.true_and]; exact ih k (i + 1) (by omega) (by omega)
theorem specGG_f (nodes : List S114) (parts : List Int) (hl : nodes.length ≤ 1048576) (hin : ∀ x ∈ nodes, x.f2.length ≤ 1048576) (hp : parts.length ≤ 1048576) (k : Nat) (hk : 2097161 < k) : spec_GoodGraph.f k nodes parts = some (goodG nodes parts) := by
  obtain ⟨k, rfl⟩ : ∃ m, k = m + 1 := ⟨k - 1, by omega⟩
  unfold spec_GoodGraph.f goodG
  rw [l6Nodes_f nodes hl hin (k + 1) (by omega), Option.bind_some]
  cases hlo : loose nodes with
  | false =>
    rw [if_neg (by simp), Bool.and_false, Bool.false_and, Bool.false_and]
    simp [spec_GoodGraph.j0]
  | true =>
    rw [if_pos rfl, Bool.and_true]
    by_cases hlen : parts.length = nodes.length
    · rw [if_pos (by omega), decide_eq_true hlen, Bool.true_and, spec_GoodParts_f parts (k + 1) (by omega), Option.bind_some]
      simp only [spec_GoodGraph.j0]
      cases okParts parts with
      | false => rfl
      | true =>
        have hn := loose_len hlo
        rw [if_neg (by simp), Bool.true_and]
        exact specGG_l0 nodes parts hlen hlo nodes.length k 0 (by omega) (by omega)
    · rw [if_neg (by omega), decide_eq_false hlen, Bool.false_and, Bool.false_and]
      simp [spec_GoodGraph.j0]
theorem VGG_f (kids parts : List Int) (hin : ∀ c ∈ kids, 0 ≤ c ∧ c < (parts.length : Int)) : VGG.f kids parts = some (!(kids.all fun c => rd parts c == c)) := by
  unfold VGG.f
  rw [if_pos (List.all_eq_true.2 fun c hc => decide_eq_true (hin c hc))]
  congr 1
  clear hin
  induction kids with
  | nil => rfl
  | cons c t ih => rw [List.any_cons, List.all_cons, ih, Bool.not_and]; rfl
theorem implGG_l1 (nodes : List S114) (parts : List Int) (hlen : parts.length = nodes.length) (hn : nodes.length ≤ 120) (j : Nat) (hj : j < nodes.length) (x : S114) (hxj : nodes.getD j z114 = x) (hx : x.f2.length ≤ 3) (d : Nat) : ∀ (k i : Nat), i + d = j → 3 < k →
    impl_GoodGraph.l1 (k + d + 1) (j : Int) nodes (nodes.length : Int) (j : Int) (nodes.take j) ((nodes.take j).length : Int) (i : Int) nodes parts x.f0 x.f1 x.f2 = if allB (pairOK nodes parts j) i d = true then impl_GoodGraph.l0 k nodes (nodes.length : Int) ((j + 1 : Nat) : Int) nodes parts else some false := by
  have htl : (nodes.take j).length = j := by rw [List.length_take]; omega
  induction d with
  | zero =>
    intro k i hi hk
    simp only [impl_GoodGraph.l1, allB]
    rw [if_neg (by omega), if_pos trivial, w64s j (by omega)]
  | succ d ih =>
    intro k i hi hk
    obtain ⟨K, hK⟩ : ∃ K, K = k + d + 1 := ⟨_, rfl⟩
    rw [show k + (d + 1) + 1 = K + 1 by omega]
    have ihh := ih k (i + 1) (by omega) hk
    rw [← hK] at ihh
    have htk : (nodes.take j).getD i z114 = nodes.getD i z114 := by
      rw [List.getD_eq_getElem?_getD, List.getD_eq_getElem?_getD, List.getElem?_take, if_pos (by omega)]
    simp only [impl_GoodGraph.l1]
    rw [if_pos (by omega), if_pos (by omega), if_pos (by omega), if_pos (by omega), if_pos (by omega), if_pos (by omega), rdE_getD, htk, implAlike_f x _ (by omega) K (by omega), Option.bind_some, w64s i (by omega), ihh, rd_nat, rd_nat]
    have hp : pairOK nodes parts j i = (!(sameE x (nodes.getD i z114)) || (parts.getD i 0 == parts.getD j 0)) := by unfold pairOK; rw [hxj]
    have hab : allB (pairOK nodes parts j) i (d + 1) = (pairOK nodes parts j i && allB (pairOK nodes parts j) (i + 1) d) := rfl
    rw [hab, hp]
    by_cases h : parts.getD i 0 = parts.getD j 0
    · rw [if_pos h, beq_iff_eq.2 h]; simp
    · rw [if_neg h, beq_eq_false_iff_ne.2 h]
      cases sameE x (nodes.getD i z114) <;> simp
theorem implGG_l0 (nodes : List S114) (parts : List Int) (hlen : parts.length = nodes.length) (hlo : loose nodes = true) (d : Nat) : ∀ (k i : Nat), i + d = nodes.length → 140 * d + 140 ≤ k →
    impl_GoodGraph.l0 k nodes (nodes.length : Int) (i : Int) nodes parts = some (allB (bodyOK nodes parts) i d) := by
  have hn := loose_len hlo
  induction d with
  | zero =>
    intro k i hi hk
    obtain ⟨k, rfl⟩ : ∃ m, k = m + 1 := ⟨k - 1, by omega⟩
    simp only [impl_GoodGraph.l0, allB]
    rw [if_neg (by omega)]
  | succ d ih =>
    intro k i hi hk
    have hil : i < nodes.length := by omega
    have hx := enOK_kids (loose_at hlo i hil)
    obtain ⟨x, hxe⟩ : ∃ x, nodes.getD i z114 = x := ⟨_, rfl⟩
    rw [hxe] at hx
    obtain ⟨k, rfl⟩ : ∃ m, k = (m + i + 1) + 1 := ⟨k - i - 2, by omega⟩
    simp only [impl_GoodGraph.l0, allB]
    have h2 := implGG_l1 nodes parts hlen hn i hil x hxe hx.1 i k 0 (by omega) (by omega)
    rw [if_pos (by omega), if_pos (by omega), if_pos (by omega), rdE_getD, hxe, VGG_f x.f2 parts (fun c hc => by have := hx.2 c hc; omega), Option.bind_some]
    have hb : bodyOK nodes parts i = ((x.f2.all fun c => rd parts c == c) && allB (pairOK nodes parts i) 0 i) := by unfold bodyOK; rw [hxe]
    rw [hb]
    cases (x.f2.all fun c => rd parts c == c) with
    | false => rfl
    | true =>
      rw [if_neg (by simp), if_pos (by omega), Option.bind_some, Bool.true_and, Int.toNat_natCast]
      refine h2.trans ?_
      cases allB (pairOK nodes parts i) 0 i with
      | false => rfl
      | true => rw [if_pos rfl, Bool.true_and]; exact ih k (i + 1) (by omega) (by omega)
theorem implGG_f (nodes : List S114) (parts : List Int) (hl : nodes.length ≤ 1048576) (hp : parts.length ≤ 1048576) (k : Nat) (hk : 2097161 < k) : impl_GoodGraph.f k nodes parts = some (goodG nodes parts) := by
  obtain ⟨k, rfl⟩ : ∃ m, k = m + 1 := ⟨k - 1, by omega⟩
  unfold impl_GoodGraph.f goodG
  by_cases hlen : parts.length = nodes.length
  · rw [if_pos (by omega), decide_eq_true hlen, Bool.true_and, looseOK_f nodes hl (k + 1) (by omega), Option.bind_some]
    cases hlo : loose nodes with
    | false =>
      rw [if_neg (by simp), Bool.false_and, Bool.false_and]
      simp [impl_GoodGraph.j0]
    | true =>
      rw [if_pos rfl, Bool.true_and, impl_GoodParts_f parts (by omega) (k + 1) (by omega), Option.bind_some]
      simp only [impl_GoodGraph.j0]
      cases okParts parts with
      | false => rfl
      | true =>
        have hn := loose_len hlo
        rw [if_neg (by simp), Bool.true_and]
        exact implGG_l0 nodes parts hlen hlo nodes.length k 0 (by omega) (by omega)
  · rw [if_neg (by omega), decide_eq_false hlen, Bool.false_and, Bool.false_and, Bool.false_and]
    simp [impl_GoodGraph.j0]

theorem gg_len {n : List S114} {p : List Int} (h : goodG n p = true) : p.length = n.length ∧ n.length ≤ 120 := by
  unfold goodG at h
  simp only [Bool.and_eq_true, decide_eq_true_eq] at h
  exact ⟨h.1.1.1, loose_len h.1.1.2⟩
theorem gg_kids {n : List S114} {p : List Int} (h : goodG n p = true) (k : Nat) (hk : k < n.length) : (n.getD k z114).f2.length ≤ 3 ∧ ∀ c ∈ (n.getD k z114).f2, 0 ≤ c ∧ c < (k : Int) ∧ rd p c = c := by
  unfold goodG at h
  simp only [Bool.and_eq_true, decide_eq_true_eq] at h
  have h1 := enOK_kids (loose_at h.1.1.2 k hk)
  have h2 := (allB_iff _ _ _).1 h.2 k (Nat.zero_le _) (by omega)
  unfold bodyOK at h2
  rw [Bool.and_eq_true] at h2
  exact ⟨h1.1, fun c hc => ⟨(h1.2 c hc).1, (h1.2 c hc).2, beq_iff_eq.1 (List.all_eq_true.1 h2.1 c hc)⟩⟩
theorem gg_par {n : List S114} {p : List Int} (h : goodG n p = true) (k : Nat) (hk : k < n.length) : goodAt p k := by
  have hl := (gg_len h).1
  unfold goodG at h
  simp only [Bool.and_eq_true, decide_eq_true_eq] at h
  exact (of_decide_eq_true h.1.2).1 k (by omega)

theorem enW_cv (n : List S130) (hn : n.length ≤ 1048576) (hs : (n.map fun x => x.f2.length).sum ≤ 1048576) : enW (n.map cvE) ≤ 3145728 := by
  have h : enW (n.map cvE) = (n.map fun x => x.f2.length).sum + 2 * n.length := by
    clear hn hs
    unfold enW
    induction n with
    | nil => rfl
    | cons x t ih =>
      simp only [List.map_cons, List.sum_cons, List.length_cons] at ih ⊢
      rw [ih]
      show x.f2.length + 2 + _ = _
      omega
  omega

/-- The kids' parts, as the reference lists them. -/
theorem l6Kids_run (p x8 : List Int) (hl : x8.length ≤ 1048576) (hin : ∀ c ∈ x8, 0 ≤ c ∧ c < (p.length : Int)) (d : Nat) : ∀ (k i : Nat) (acc : List Int), i + d = x8.length → acc.length ≤ i → d < k → spec_l6Kids.l0 k p acc x8 (x8.length : Int) (i : Int) = some (acc ++ (x8.drop i).map (rd p)) := by
  induction d with
  | zero =>
    intro k i acc hi ha hk
    obtain ⟨k, rfl⟩ : ∃ m, k = m + 1 := ⟨k - 1, by omega⟩
    simp only [spec_l6Kids.l0]
    rw [if_neg (by omega), List.drop_of_length_le (by omega), List.map_nil, List.append_nil]
  | succ d ih =>
    intro k i acc hi ha hk
    obtain ⟨k, rfl⟩ : ∃ m, k = m + 1 := ⟨k - 1, by omega⟩
    have hil : i < x8.length := by omega
    have e : rd x8 (i : Int) = x8[i] := by rw [rd_nat, getD_lt _ _ hil]
    have hc := hin _ (List.getElem_mem hil)
    have e1 : wrap64 ((i : Int) + 1) = ((i + 1 : Nat) : Int) := by unfold wrap64; omega
    simp only [spec_l6Kids.l0]
    rw [if_pos (by omega), if_pos (by omega), if_pos (by omega), e, if_pos hc.1, if_pos hc.2, if_pos (by omega), e1, ih k (i + 1) _ (by omega) (by simp; omega) (by omega), List.drop_eq_getElem_cons hil, List.map_cons, List.append_assoc, List.singleton_append]
theorem l6Kids_f (p x8 : List Int) (hl : x8.length ≤ 1048576) (hin : ∀ c ∈ x8, 0 ≤ c ∧ c < (p.length : Int)) (k : Nat) (hk : x8.length < k) : spec_l6Kids.f k p x8 = some (x8.map (rd p)) := by
  unfold spec_l6Kids.f
  have := l6Kids_run p x8 hl hin x8.length k 0 [] (by omega) (by simp) hk
  rw [List.drop_zero, List.nil_append] at this
  exact this
theorem zip_map (p : List Int) : ∀ a b : List Int, (decide (a.length = b.length) && (List.zip a b).all fun q => rd p q.1 == rd p q.2) = (b.map (rd p) == a.map (rd p)) := by
  intro a
  induction a with
  | nil => intro b; cases b with | nil => rfl | cons => simp
  | cons x xs ih =>
    intro b
    cases b with
    | nil => simp
    | cons y ys =>
      have h := ih ys
      simp only [List.length_cons, List.zip_cons_cons, List.all_cons, List.map_cons, Nat.add_right_cancel_iff]
      rw [List.cons_beq_cons, ← h, show (rd p y == rd p x) = (rd p x == rd p y) from by rw [Bool.eq_iff_iff, beq_iff_eq, beq_iff_eq]; exact eq_comm]
      cases decide (xs.length = ys.length) <;> cases (rd p x == rd p y) <;> rfl
theorem specAlikeK (x y : S114) (q : List Int) (hx : x.f2.length ≤ 3 ∧ ∀ c ∈ x.f2, 0 ≤ c ∧ c < (q.length : Int)) (hy : y.f2.length ≤ 3 ∧ ∀ c ∈ y.f2, 0 ≤ c ∧ c < (q.length : Int)) (k : Nat) (hk : 4 < k) (A B : Option (List Int)) :
    (if x.f0 = y.f0 then (if x.f1 = y.f1 then ((spec_l6Kids.f k q x.f2).bind fun t => ((spec_l6Kids.f k q y.f2).bind fun u => ((spec_l1Same.f k t u).bind fun b => (if b = true then A else B)))) else B) else B) = if congB y x q = true then A else B := by
  unfold congB
  rw [l6Kids_f q x.f2 (by omega) hx.2 k (by omega), l6Kids_f q y.f2 (by omega) hy.2 k (by omega), Option.bind_some, Option.bind_some, l1Same_f _ _ (by simp; omega) k (by simp; omega), Option.bind_some, zip_map]
  by_cases h0 : x.f0 = y.f0
  · rw [if_pos h0, h0, beq_self_eq_true, Bool.true_and]
    by_cases h1 : x.f1 = y.f1
    · rw [if_pos h1, h1, beq_self_eq_true, Bool.true_and]
    · rw [if_neg h1, beq_eq_false_iff_ne.2 (fun e => h1 e.symm), Bool.false_and, if_neg (by simp)]
  · rw [if_neg h0, beq_eq_false_iff_ne.2 (fun e => h0 e.symm), Bool.false_and, Bool.false_and, if_neg (by simp)]
def sumN (q : List Int) : Nat := (q.map Int.toNat).sum
theorem sum_joined_le (keep gone : Int) (h : keep < gone) : ∀ q : List Int, sumN (joinedBy q keep gone) ≤ sumN q := by
  intro q
  induction q with
  | nil => exact Nat.le_refl _
  | cons x xs ih =>
    unfold sumN joinedBy at *
    simp only [List.map_cons, List.sum_cons]
    split <;> omega
theorem sum_joined (keep gone : Int) (h0 : 0 ≤ keep) (h : keep < gone) : ∀ q : List Int, gone ∈ q → sumN (joinedBy q keep gone) < sumN q := by
  intro q
  induction q with
  | nil => intro hg; exact absurd hg (by simp)
  | cons x xs ih =>
    intro hg
    have hle := sum_joined_le keep gone h xs
    unfold sumN joinedBy at *
    simp only [List.map_cons, List.sum_cons]
    by_cases e : x = gone
    · rw [if_pos e]; omega
    · rw [if_neg e]
      have := ih ((List.mem_cons.1 hg).resolve_left (fun e2 => e e2.symm))
      omega
theorem join_less (q : List Int) (i j : Nat) (hi : i < q.length) (hj : j < q.length) (h0 : ∀ x ∈ q, 0 ≤ x) (hne : ¬ rd q (i : Int) = rd q (j : Int)) : sumN (joinOf q (i : Int) (j : Int)) + 1 ≤ sumN q ∧ ∀ x ∈ joinOf q (i : Int) (j : Int), 0 ≤ x := by
  have mi : rd q (i : Int) ∈ q := by rw [rd_nat, getD_lt _ _ hi]; exact List.getElem_mem hi
  have mj : rd q (j : Int) ∈ q := by rw [rd_nat, getD_lt _ _ hj]; exact List.getElem_mem hj
  unfold joinOf
  generalize rd q (i : Int) = a at *
  generalize rd q (j : Int) = b at *
  have ha := h0 a mi
  have hb := h0 b mj
  have h1 : 0 ≤ mn a b := by unfold mn; split <;> omega
  have h2 : mn a b < mx a b := by unfold mn mx; split <;> split <;> omega
  have h3 : mx a b ∈ q := by unfold mx; split <;> assumption
  refine ⟨sum_joined _ _ h1 h2 q h3, fun x hx => ?_⟩
  unfold joinedBy at hx
  obtain ⟨y, hy, rfl⟩ := List.mem_map.1 hx
  have := h0 y hy
  split <;> omega
theorem joinOf_len (q : List Int) (a b : Int) : (joinOf q a b).length = q.length := by simp [joinOf, joinedBy]
/-- What bounds the rounds that are still to come. -/
def pot (q : List Int) (ag : Bool) : Nat := sumN q * 16000 + (if ag = true then 16000 else 0)
theorem pot_again (q : List Int) : pot q true = pot q false + 16000 := by unfold pot; rw [if_pos rfl, if_neg (by simp)]
theorem pot_join {q q' : List Int} (h : sumN q' + 1 ≤ sumN q) (ag : Bool) : pot q' true ≤ pot q ag := by
  unfold pot
  rw [if_pos rfl]
  have := Nat.mul_le_mul_right 16000 h
  rw [Nat.add_mul, Nat.one_mul] at this
  exact Nat.le_trans this (Nat.le_add_right _ _)
/-- The program's closing and the reference's come to the same parts. -/
theorem closing_run (n : List S114) (hn : n.length ≤ 120) (hkids : ∀ i, i < n.length → (n.getD i z114).f2.length ≤ 3 ∧ ∀ c ∈ (n.getD i z114).f2, 0 ≤ c ∧ c < (n.length : Int)) (N : Nat) :
    (∀ (q : List Int) (ag : Bool), q.length = n.length → (∀ x ∈ q, 0 ≤ x) → pot q ag + 1 ≤ N → ∃ r : List Int, r.length = n.length ∧ ∀ k, N + 1000 ≤ k → spec_l6Closed.l0 k n q ag = some r ∧ cl0 k n q ag = some r) ∧
    (∀ (q : List Int) (ag : Bool) (j : Nat), q.length = n.length → (∀ x ∈ q, 0 ≤ x) → j ≤ n.length → pot q ag + (n.length - j) * 125 + 2 ≤ N → ∃ r : List Int, r.length = n.length ∧ ∀ k, N + 1000 ≤ k → spec_l6Closed.l1 k n q ag n (n.length : Int) (j : Int) = some r ∧ cl1 k n q ag j = some r) ∧
    (∀ (q : List Int) (ag : Bool) (j i : Nat), q.length = n.length → (∀ x ∈ q, 0 ≤ x) → j < n.length → i ≤ j → pot q ag + (n.length - j) * 125 + 1 ≤ N + i → ∃ r : List Int, r.length = n.length ∧ ∀ k, N + 1000 ≤ k → spec_l6Closed.l2 k n q ag (j : Int) (i : Int) n (n.length : Int) (j : Int) (n.getD j z114).f0 (n.getD j z114).f1 (n.getD j z114).f2 = some r ∧ cl2 k n q ag j i = some r) := by
  induction N with
  | zero => exact ⟨fun q ag _ _ h => by omega, fun q ag j _ _ _ h => by omega, fun q ag j i _ _ hj hi h => by omega⟩
  | succ N ih =>
    obtain ⟨ih0, ih1, ih2⟩ := ih
    refine ⟨?_, ?_, ?_⟩
    · intro q ag hl h0 hN
      cases ag with
      | false =>
        refine ⟨q, hl, fun k hk => ?_⟩
        obtain ⟨k, rfl⟩ : ∃ m, k = m + 1 := ⟨k - 1, by omega⟩
        simp only [spec_l6Closed.l0, cl0]
        exact ⟨rfl, rfl⟩
      | true =>
        have hpa := pot_again q
        obtain ⟨r, hr, h⟩ := ih1 q false 0 hl h0 (Nat.zero_le _) (by omega)
        refine ⟨r, hr, fun k hk => ?_⟩
        obtain ⟨k, rfl⟩ : ∃ m, k = m + 1 := ⟨k - 1, by omega⟩
        simp only [spec_l6Closed.l0, cl0, if_true]
        exact h k (by omega)
    · intro q ag j hl h0 hj hN
      by_cases c : j < n.length
      · obtain ⟨r, hr, h⟩ := ih2 q ag j 0 hl h0 c (Nat.zero_le _) (by omega)
        refine ⟨r, hr, fun k hk => ?_⟩
        obtain ⟨k, rfl⟩ : ∃ m, k = m + 1 := ⟨k - 1, by omega⟩
        have c1 : (j : Int) < (n.length : Int) := by omega
        have c0 : (0 : Int) ≤ (j : Int) := by omega
        simp only [spec_l6Closed.l1, cl1, rdE_getD, if_pos c1, if_pos c0, if_pos c]
        exact h k (by omega)
      · obtain ⟨r, hr, h⟩ := ih0 q ag hl h0 (by omega)
        refine ⟨r, hr, fun k hk => ?_⟩
        obtain ⟨k, rfl⟩ : ∃ m, k = m + 1 := ⟨k - 1, by omega⟩
        have c1 : ¬ (j : Int) < (n.length : Int) := by omega
        simp only [spec_l6Closed.l1, cl1, if_neg c1, if_neg c]
        exact h k (by omega)
    · intro q ag j i hl h0 hj hi hN
      by_cases c : i < j
      · have e1 : wrap64 ((i : Int) + 1) = ((i + 1 : Nat) : Int) := by unfold wrap64; omega
        have kx := hkids i (by omega)
        have ky := hkids j hj
        have d1 : (i : Int) < (j : Int) := by omega
        have d2 : (0 : Int) ≤ (i : Int) := by omega
        have d3 : (i : Int) < (n.length : Int) := by omega
        have d4 : (i : Int) < (q.length : Int) := by omega
        have d5 : (0 : Int) ≤ (j : Int) := by omega
        have d6 : (j : Int) < (q.length : Int) := by omega
        by_cases hne : rd q (i : Int) = rd q (j : Int)
        · obtain ⟨r, hr, h⟩ := ih2 q ag j (i + 1) hl h0 hj (by omega) (by omega)
          refine ⟨r, hr, fun k hk => ?_⟩
          obtain ⟨k, rfl⟩ : ∃ m, k = m + 1 := ⟨k - 1, by omega⟩
          simp only [spec_l6Closed.l2, cl2]
          rw [if_pos d1, if_pos d2, if_pos d3, if_pos d4, if_pos d5, if_pos d6, if_pos hne, if_pos c, if_neg (fun h => h.1 hne), e1]
          exact h k (by omega)
        · cases hcb : congB (n.getD j z114) (n.getD i z114) q with
          | false =>
            obtain ⟨r, hr, h⟩ := ih2 q ag j (i + 1) hl h0 hj (by omega) (by omega)
            refine ⟨r, hr, fun k hk => ?_⟩
            obtain ⟨k, rfl⟩ : ∃ m, k = m + 1 := ⟨k - 1, by omega⟩
            simp only [spec_l6Closed.l2, cl2, rdE_getD]
            rw [if_pos d1, if_pos d2, if_pos d3, if_pos d4, if_pos d5, if_pos d6, if_neg hne, specAlikeK _ _ q (by rw [hl]; exact kx) (by rw [hl]; exact ky) k (by omega), hcb, if_neg (by simp), if_pos c, if_neg (fun h => by simp at h), e1]
            exact h k (by omega)
          | true =>
            obtain ⟨hs, hp0⟩ := join_less q i j (by omega) (by omega) h0 hne
            obtain ⟨r, hr, h⟩ := ih2 (joinOf q (i : Int) (j : Int)) true j (i + 1) (by rw [joinOf_len, hl]) hp0 hj (by omega) (by have := pot_join hs ag; omega)
            refine ⟨r, hr, fun k hk => ?_⟩
            obtain ⟨k, rfl⟩ : ∃ m, k = m + 1 := ⟨k - 1, by omega⟩
            simp only [spec_l6Closed.l2, cl2, rdE_getD]
            rw [if_pos d1, if_pos d2, if_pos d3, if_pos d4, if_pos d5, if_pos d6, if_neg hne, specAlikeK _ _ q (by rw [hl]; exact kx) (by rw [hl]; exact ky) k (by omega), hcb, if_pos rfl, if_pos c, if_pos ⟨hne, rfl⟩, spec_l5Join_f q (by omega) _ _ ⟨d2, d4⟩ ⟨d5, d6⟩ k (by omega), impl_joinIn_f q (by omega) _ _ ⟨d2, d4⟩ ⟨d5, d6⟩ k (by omega), e1, Option.bind_some, Option.bind_some, if_pos (joinOf_len q _ _)]
            exact h k (by omega)
      · obtain ⟨r, hr, h⟩ := ih1 q ag (j + 1) hl h0 (by omega) (by omega)
        refine ⟨r, hr, fun k hk => ?_⟩
        obtain ⟨k, rfl⟩ : ∃ m, k = m + 1 := ⟨k - 1, by omega⟩
        have e1 : wrap64 ((j : Int) + 1) = ((j + 1 : Nat) : Int) := by unfold wrap64; omega
        have d1 : ¬ (i : Int) < (j : Int) := by omega
        simp only [spec_l6Closed.l2, cl2]
        rw [if_neg d1, if_neg c, e1]
        exact h k (by omega)
theorem sum_le (m : Nat) : ∀ q : List Int, (∀ x ∈ q, x ≤ (m : Int)) → sumN q ≤ q.length * m := by
  intro q
  induction q with
  | nil => intro _; exact Nat.zero_le _
  | cons x xs ih =>
    intro h
    have h1 := ih (fun y hy => h y (List.mem_cons_of_mem _ hy))
    have h2 := h x (List.mem_cons_self)
    unfold sumN at *
    simp only [List.map_cons, List.sum_cons, List.length_cons, Nat.succ_mul]
    omega

/-! The copy of a row of nodes. -/
theorem own_id (l : List Int) (hn : l.length ≤ 1048576) : spec_l1Own.f l = some l := by
  unfold spec_l1Own.f
  simp only [Option.bind_some, List.length_nil, List.nil_append]
  rw [if_pos (by omega)]
theorem cloneI_f (l : List Int) (hn : l.length ≤ 1048576) : slices_Clone_int.f l = some l := by unfold slices_Clone_int.f; rw [if_pos (by omega)]
theorem nodeE_eta (x : S114) : (⟨x.f0, x.f1, x.f2⟩ : S114) = x := rfl
theorem getE_mem (n : List S114) (i : Nat) (hi : i < n.length) : n.getD i z114 ∈ n := by
  rw [List.getD_eq_getElem?_getD, List.getElem?_eq_getElem hi]; exact List.getElem_mem hi
theorem cloneNodes_run (n : List S114) (hn : n.length ≤ 1048576) (hin : ∀ x ∈ n, x.f2.length ≤ 1048576) (d : Nat) : ∀ (k i : Nat) (x3 : List S114), i + d = n.length → x3.length = n.length → (∀ j, j < i → x3.getD j z114 = n.getD j z114) → d < k → impl_cloneNodes.l0 k x3 n (n.length : Int) (i : Int) = some n := by
  induction d with
  | zero =>
    intro k i x3 hi hl hj hk
    obtain ⟨k, rfl⟩ : ∃ m, k = m + 1 := ⟨k - 1, by omega⟩
    simp only [impl_cloneNodes.l0]
    rw [if_neg (by omega)]
    congr 1
    refine List.ext_getElem hl fun j h1 h2 => ?_
    have := hj j (by omega)
    rwa [List.getD_eq_getElem?_getD, List.getElem?_eq_getElem h1, List.getD_eq_getElem?_getD, List.getElem?_eq_getElem h2] at this
  | succ d ih =>
    intro k i x3 hi hl hj hk
    obtain ⟨k, rfl⟩ : ∃ m, k = m + 1 := ⟨k - 1, by omega⟩
    simp only [impl_cloneNodes.l0]
    rw [if_pos (by omega), if_pos (by omega), if_pos (by omega)]
    simp only [rd_T114, Int.toNat_natCast]
    rw [cloneI_f _ (hin _ (getE_mem n i (by omega))), Option.bind_some, if_pos (by omega), nodeE_eta, w64s i (by omega)]
    refine ih k (i + 1) _ (by omega) (by rw [List.length_set]; exact hl) (fun j h => ?_) (by omega)
    by_cases e : j = i
    · subst e
      rw [List.getD_eq_getElem?_getD, List.getElem?_set_self (by omega)]; rfl
    · rw [List.getD_eq_getElem?_getD, List.getElem?_set_ne (fun h => e h.symm), ← List.getD_eq_getElem?_getD]
      exact hj j (by omega)
theorem cloneNodes_f (n : List S114) (hn : n.length ≤ 1048576) (hin : ∀ x ∈ n, x.f2.length ≤ 1048576) (k : Nat) (hk : n.length < k) : impl_cloneNodes.f k n = some n := by
  unfold impl_cloneNodes.f
  rw [if_pos (by omega), if_pos (by omega)]
  exact cloneNodes_run n hn hin n.length k 0 _ (by omega) (by rw [List.length_replicate]; omega) (fun j h => absurd h (Nat.not_lt_zero _)) hk

/-! The reference's copy of a graph. -/
theorem l6Own_run (n : List S114) (hn : n.length ≤ 1048576) (hin : ∀ x ∈ n, x.f2.length ≤ 1048576) (p : List Int) (d : Nat) : ∀ (k i : Nat) (acc : List S114), i + d = n.length → acc.length = i → d < k → spec_l6Own.l0 k n (n.length : Int) (i : Int) acc p = some (acc ++ n.drop i, p) := by
  induction d with
  | zero =>
    intro k i acc hi hl hk
    obtain ⟨k, rfl⟩ : ∃ m, k = m + 1 := ⟨k - 1, by omega⟩
    simp only [spec_l6Own.l0]
    rw [if_neg (by omega), List.drop_eq_nil_of_le (by omega), List.append_nil]
  | succ d ih =>
    intro k i acc hi hl hk
    obtain ⟨k, rfl⟩ : ∃ m, k = m + 1 := ⟨k - 1, by omega⟩
    simp only [spec_l6Own.l0]
    rw [if_pos (by omega), if_pos (by omega), if_pos (by omega)]
    simp only [rd_T114, Int.toNat_natCast]
    rw [own_id _ (hin _ (getE_mem n i (by omega))), Option.bind_some, if_pos (by omega), nodeE_eta, w64s i (by omega)]
    rw [ih k (i + 1) _ (by omega) (by simp; omega) (by omega), List.append_assoc]
    congr 2
    rw [List.drop_eq_getElem_cons (show i < n.length by omega), List.getD_eq_getElem?_getD, List.getElem?_eq_getElem (show i < n.length by omega)]
    rfl
theorem l6Own_f (n : List S114) (p : List Int) (hn : n.length ≤ 1048576) (hin : ∀ x ∈ n, x.f2.length ≤ 1048576) (hp : p.length ≤ 1048576) (k : Nat) (hk : n.length < k) : spec_l6Own.f k n p = some (n, p) := by
  unfold spec_l6Own.f
  rw [own_id p hp, Option.bind_some]
  exact l6Own_run n hn hin p n.length k 0 [] (by omega) rfl hk

/-! What is held behind the marking of a row of nodes. -/
theorem heldI_at (m n : Nat) (hn : n ≤ 1048576) (hm : m ≤ 3000000) (k : Nat) (hk : n < k) : laws_heldIntS.f k (mkI m n) (m : Int) = some ((m + n : Nat) : Int) := by
  have := laws_heldIntS_run n (by omega) m hm n k 0 (by omega) hk
  exact this
theorem mkEL_at (l : List S114) (m i : Nat) (hi : i < l.length) : (mkEL l m).getD i z114 = mkE l m i := by
  unfold mkEL
  rw [List.getD_eq_getElem?_getD, List.getElem?_map, List.getElem?_range hi]; rfl
theorem mkEL_len (l : List S114) (m : Nat) : (mkEL l m).length = l.length := by unfold mkEL; rw [List.length_map, List.length_range]
theorem heldE_run (l : List S114) (hl : l.length ≤ 1048576) (hin : ∀ x ∈ l, x.f2.length ≤ 1048576) (m : Nat) (hm : m + enW l ≤ 3000000) (d : Nat) : ∀ (k i : Nat), i + d = l.length → d + 1048577 < k → laws_heldENodeS.l0 k (mkEL l m) ((m + enW (l.take i) : Nat) : Int) (i : Int) = some ((m + enW l : Nat) : Int) := by
  induction d with
  | zero =>
    intro k i hi hk
    obtain ⟨k, rfl⟩ : ∃ m, k = m + 1 := ⟨k - 1, by omega⟩
    simp only [laws_heldENodeS.l0, mkEL_len]
    rw [if_neg (by omega), List.take_of_length_le (by omega)]
  | succ d ih =>
    intro k i hi hk
    obtain ⟨k, rfl⟩ : ∃ m, k = m + 1 := ⟨k - 1, by omega⟩
    have hiw := enW_take_succ l i (by omega)
    have hle := enW_take_le l (i + 1)
    have hk3 := hin _ (by rw [List.getD_eq_getElem?_getD, List.getElem?_eq_getElem (show i < l.length by omega)]; exact List.getElem_mem _ : l.getD i z114 ∈ l)
    simp only [laws_heldENodeS.l0, mkEL_len]
    rw [if_pos (by omega), if_pos (by omega)]
    simp only [rd_T114, Int.toNat_natCast, mkEL_at l m i (show i < l.length by omega), mkE]
    rw [if_pos trivial, w64s (m + enW (l.take i)) (by omega), if_pos rfl, w64s (m + enW (l.take i) + 1) (by omega)]
    rw [heldI_at (m + enW (l.take i) + 2) _ hk3 (by omega) k (by omega), Option.bind_some, if_neg (by omega), w64s i (by omega)]
    have := ih k (i + 1) (by omega) (by omega)
    rw [hiw] at this
    rw [← this]
    congr 1
    omega
theorem heldE_f (l : List S114) (hl : l.length ≤ 1048576) (hin : ∀ x ∈ l, x.f2.length ≤ 1048576) (hm : 1 + enW l ≤ 3000000) (k : Nat) (hk : 2097160 < k) : laws_heldENodeS.f k (mkEL l 1) 1 = some ((1 + enW l : Nat) : Int) := by
  unfold laws_heldENodeS.f
  exact heldE_run l hl hin 1 hm l.length k 0 (by omega) (by omega)

theorem classed_run (N : List S114) (P l : List Int) (a b : Int) (hl : l.length ≤ 1048576) (hin : ∀ c ∈ l, 0 ≤ c ∧ c < (P.length : Int)) (d : Nat) : ∀ (k i : Nat) (x5 : List Int), i + d = l.length → x5.length = l.length → (∀ j, j < i → x5.getD j 0 = rd P (l.getD j 0)) → d < k → impl_EGraph_classed.l0 k x5 l (l.length : Int) (i : Int) N P a b l = some (a, b, l.map (rd P)) := by
  induction d with
  | zero =>
    intro k i x5 hi hx hj hk
    obtain ⟨k, rfl⟩ : ∃ m, k = m + 1 := ⟨k - 1, by omega⟩
    simp only [impl_EGraph_classed.l0]
    rw [if_neg (by omega)]
    congr 3
    refine List.ext_getElem (by rw [List.length_map]; exact hx) fun j h1 h2 => ?_
    have := hj j (by omega)
    rw [getD_lt _ _ h1, getD_lt _ _ (by omega)] at this
    rw [this, List.getElem_map]
  | succ d ih =>
    intro k i x5 hi hx hj hk
    obtain ⟨k, rfl⟩ : ∃ m, k = m + 1 := ⟨k - 1, by omega⟩
    have hm := hin (l.getD i 0) (by rw [getD_lt _ _ (by omega)]; exact List.getElem_mem _)
    simp only [impl_EGraph_classed.l0]
    rw [if_pos (by omega), if_pos (by omega), if_pos (by omega), rd_nat l i, if_pos hm.1, if_pos hm.2, if_pos (by omega), w64s i (by omega)]
    simp only [Int.toNat_natCast]
    refine ih k (i + 1) _ (by omega) (by rw [List.length_set]; exact hx) (fun j h => ?_) (by omega)
    by_cases e : j = i
    · subst e
      rw [List.getD_eq_getElem?_getD, List.getElem?_set_self (by omega)]; rfl
    · rw [List.getD_eq_getElem?_getD, List.getElem?_set_ne (fun h => e h.symm), ← List.getD_eq_getElem?_getD]
      exact hj j (by omega)
theorem classed_f (N : List S114) (P l : List Int) (a b : Int) (hl : l.length ≤ 1048576) (hin : ∀ c ∈ l, 0 ≤ c ∧ c < (P.length : Int)) (k : Nat) (hk : l.length < k) : impl_EGraph_classed.f k N P a b l = some (a, b, l.map (rd P)) := by
  unfold impl_EGraph_classed.f
  rw [if_pos (by omega), if_pos (by omega)]
  exact classed_run N P l a b hl hin l.length k 0 _ (by omega) (by rw [List.length_replicate]; omega) (fun j h => absurd h (Nat.not_lt_zero _)) hk
/-- The nodes, their kids named by their parts. -/
def named (C : List Int) (n : List S114) : List S114 := n.map fun x => ⟨x.f0, x.f1, x.f2.map (rd C)⟩
theorem kids_alike (C : List Int) (k : Nat) (hk : 4 < k) : ∀ n : List S114, (∀ x ∈ n, x.f2.length ≤ 3 ∧ ∀ c ∈ x.f2, 0 ≤ c ∧ c < (C.length : Int)) → kidsM k C n = some (named C n) ∧ kidsI k C n = some (named C n)
  | [], _ => ⟨rfl, rfl⟩
  | x :: xs, h => by
    obtain ⟨h1, h2⟩ := h x List.mem_cons_self
    obtain ⟨i1, i2⟩ := kids_alike C k hk xs (fun y hy => h y (List.mem_cons_of_mem _ hy))
    simp only [kidsM, kidsI]
    rw [l6Kids_f C x.f2 (by omega) h2 k (by omega), classed_f [] C x.f2 _ _ (by omega) h2 k (by omega)]
    simp only [Option.bind_some, i1, i2]
    exact ⟨rfl, rfl⟩
theorem enW_named (C : List Int) (n : List S114) : enW (named C n) = enW n := by
  unfold enW named
  rw [List.map_map]
  congr 1
  refine List.map_congr_left fun x _ => ?_
  simp only [Function.comp, List.length_map]
theorem enW_small (l : List S114) (h : ∀ x ∈ l, x.f2.length ≤ 3) : enW l ≤ l.length * 5 := by
  induction l with
  | nil => simp [enW]
  | cons x xs ih =>
    have h1 := h x List.mem_cons_self
    have h2 := ih (fun y hy => h y (List.mem_cons_of_mem _ hy))
    unfold enW at h2 ⊢
    rw [List.map_cons, List.sum_cons, List.length_cons]
    omega
theorem merge_key (n : List S114) (p : List Int) (hn : n.length ≤ 1048576) (hin : ∀ x ∈ n, x.f2.length ≤ 1048576) (hp : p.length ≤ 1048576) (a b : Int) (k : Nat) (hk : 1000000000 < k) : ∃ r : List S114 × List Int × Bool, (r.1.length ≤ 120 ∧ (∀ x ∈ r.1, x.f2.length ≤ 3) ∧ r.2.1.length ≤ 120) ∧ spec_Merge.f k n p a b = some r ∧ impl_Merge.f k n p a b = some r := by
  unfold spec_Merge.f impl_Merge.f
  rw [specGG_f n p hn hin hp k (by omega), implGG_f n p hn hp k (by omega)]
  simp only [Option.bind_some]
  cases hg : goodG n p with
  | false => exact ⟨([], [], false), ⟨by simp, by simp, by simp⟩, rfl, rfl⟩
  | true =>
    obtain ⟨e1, e2⟩ := gg_len hg
    rw [w64 ((n.length : Int) - 1) (by omega) (by omega), l1In_f, l1In_f]
    have hw : ∀ x : Int, impl_within.f x 0 ((n.length : Int) - 1) = some (decide (0 ≤ x ∧ x ≤ (n.length : Int) - 1)) := fun x => by
      unfold impl_within.f
      by_cases h0 : x ≥ 0
      · rw [if_pos h0]; congr 1; simp only [decide_eq_decide]; omega
      · rw [if_neg h0, decide_eq_false (by omega)]
    rw [hw, hw]
    simp only [Option.bind_some, if_true]
    by_cases ha : 0 ≤ a ∧ a ≤ (n.length : Int) - 1
    case neg =>
      refine ⟨([], [], false), ⟨by simp, by simp, by simp⟩, ?_⟩
      rw [decide_eq_false ha]
      exact ⟨rfl, rfl⟩
    rw [decide_eq_true ha]
    by_cases hb : 0 ≤ b ∧ b ≤ (n.length : Int) - 1
    case neg =>
      refine ⟨([], [], false), ⟨by simp, by simp, by simp⟩, ?_⟩
      rw [decide_eq_false hb]
      exact ⟨rfl, rfl⟩
    rw [decide_eq_true hb]
    simp only [if_true, Option.bind_some]
    have hkids : ∀ i, i < n.length → (n.getD i z114).f2.length ≤ 3 ∧ ∀ c ∈ (n.getD i z114).f2, 0 ≤ c ∧ c < (n.length : Int) := fun i hi => by
      obtain ⟨h1, h2⟩ := gg_kids hg i hi
      exact ⟨h1, fun c hc => by have := h2 c hc; omega⟩
    have hx : ∀ x ∈ p, 0 ≤ x ∧ x ≤ ((200 : Nat) : Int) := fun x hx => by
      obtain ⟨i, hi, rfl⟩ := List.getElem_of_mem hx
      have := gg_par hg i (by omega)
      unfold goodAt at this
      rw [getD_lt _ _ hi] at this
      omega
    obtain ⟨J, hJ⟩ : ∃ J, joinOf p a b = J := ⟨_, rfl⟩
    have hjs := spec_l5Join_f p (by omega) a b (by omega) (by omega) k (by omega)
    have hji := impl_joinIn_f p (by omega) a b (by omega) (by omega) k (by omega)
    have hJl := joinOf_len p a b
    have hJx : ∀ x ∈ joinOf p a b, 0 ≤ x ∧ x ≤ ((200 : Nat) : Int) := fun x h => by
      unfold joinOf joinedBy at h
      obtain ⟨y, hy, rfl⟩ := List.mem_map.1 h
      have h1 := hx y hy
      have hm : ∀ c : Int, 0 ≤ c → c < (p.length : Int) → 0 ≤ rd p c ∧ rd p c ≤ ((200 : Nat) : Int) := fun c h0 h1 => by
        obtain ⟨m, rfl⟩ := Int.eq_ofNat_of_zero_le h0
        rw [rd_nat, getD_lt _ _ (by omega)]
        exact hx _ (List.getElem_mem _)
      have ma := hm a (by omega) (by omega)
      have mb := hm b (by omega) (by omega)
      by_cases e : y = mx (rd p a) (rd p b)
      · rw [if_pos e]; unfold mn; split <;> assumption
      · rw [if_neg e]; exact h1
    rw [hJ] at hjs hji hJl hJx
    clear hJ
    have hs := sum_le 200 J (fun x h => (hJx x h).2)
    have hpot : pot J true ≤ 400000000 := by
      unfold pot
      rw [if_pos rfl]
      generalize sumN J = s at hs ⊢
      omega
    obtain ⟨C, hC, hrun⟩ := (closing_run n e2 hkids (pot J true + 1)).1 J true (by omega) (fun x h => (hJx x h).1) (Nat.le_refl _)
    obtain ⟨h1, h2⟩ := hrun k (by omega)
    have hkd : kidsOK n n.length = true := by
      unfold kidsOK
      rw [List.all_eq_true]
      intro x hx
      obtain ⟨i, hi, rfl⟩ := List.getElem_of_mem hx
      rw [List.all_eq_true]
      intro c hc
      have := (hkids i hi).2 c (by rw [List.getD_eq_getElem?_getD, List.getElem?_eq_getElem hi]; exact hc)
      exact decide_eq_true this
    have hcl : impl_closing.f k n J = some C := by
      unfold impl_closing.f
      rw [if_pos ⟨by omega, by omega, hkd⟩]
      exact h2
    have hsp : spec_l6Closed.f k n J = some C := by
      unfold spec_l6Closed.f
      rw [own_id J (by omega), Option.bind_some]
      exact h1
    have hnk : ∀ x ∈ n, x.f2.length ≤ 3 ∧ ∀ c ∈ x.f2, 0 ≤ c ∧ c < (C.length : Int) := fun x hx => by
      obtain ⟨i, hi, rfl⟩ := List.getElem_of_mem hx
      have := hkids i hi
      rw [List.getD_eq_getElem?_getD, List.getElem?_eq_getElem hi] at this
      exact ⟨this.1, fun c hc => by have := this.2 c hc; omega⟩
    obtain ⟨k1, k2⟩ := kids_alike C k (by omega) n hnk
    have hn3 : n.length ≤ 1048576 := hn
    refine ⟨(named C n, C, true), ⟨by unfold named; simp only [List.length_map]; omega, fun x hx => ?_, by simp only; omega⟩, ?_, ?_⟩
    · unfold named at hx
      obtain ⟨y, hy, rfl⟩ := List.mem_map.1 hx
      simp only [List.length_map]
      exact (hnk y hy).1
    · unfold spec_l6Merge.f
      rw [l6Own_f n p hn hin hp k (by omega), hjs]
      simp only [Option.bind_some, hsp, if_pos hn3, k1]
    · unfold impl_cloneGraph.f
      rw [cloneNodes_f n hn hin k (by omega), cloneI_f p hp]
      simp only [Option.bind_some, if_pos hn3, hji, hcl, k2]
theorem FnExactMerge : RdFnExactMerge.Pure := by
  rintro ⟨n, p⟩ a b ⟨hn, hp⟩ hl hl2 _ _
  simp only at hn hp hl hl2 ⊢
  refine ⟨1000000010, ?_⟩
  unfold laws_FnExactMerge.f
  obtain ⟨t, ht, hh⟩ := szG_f n p 1048576 (by omega) (by omega) hl (fun x hx => (hn.2 x hx).2.2.1) hl2 1000000010 (by omega)
  rw [ht, Option.bind_some]
  by_cases h : t < 0
  · rw [if_pos h]
  · obtain ⟨_, _, h1, h2, h3, h4⟩ := hh.resolve_left h
    have hlen : (n.map cvE).length = n.length := List.length_map _
    have hW := enW_cv n h1 h4
    have hto := toG_f n p h1 h2 h3 1000000010 (by omega)
    have hin := cvE_len n h2
    obtain ⟨r, ⟨hr1, hr2, hr3⟩, hs, hi⟩ := merge_key (n.map cvE) p (by omega) hin h3 a b 1000000010 (by omega)
    have hr2' : ∀ x ∈ r.1, x.f2.length ≤ 1048576 := fun x hx => Nat.le_trans (hr2 x hx) (by omega)
    have hq := eqG_f (n.map cvE) p (by omega) hin h3 1000000010 (by omega)
    have he := eqG_f r.1 r.2.1 (by omega) hr2' (by omega) 1000000010 (by omega)
    have hw := enW_small r.1 hr2
    have hd1 := heldE_f r.1 (by omega) hr2' (by omega) 1000000010 (by omega)
    have hd2 := heldI_at (1 + enW r.1) r.2.1.length (by omega) (by omega) 1000000010 (by omega)
    have hd : laws_heldEGraph.f 1000000010 (mkEL r.1 1) (mkI (1 + enW r.1) r.2.1.length) 1 = some ((1 + enW r.1 + r.2.1.length : Nat) : Int) := by
      unfold laws_heldEGraph.f
      rw [hd1, Option.bind_some, if_neg (by omega), hd2, Option.bind_some, if_neg (by omega)]
    generalize n.map cvE = L at *
    simp only [if_neg h, hto, hs, hi, hq, he, hd, Option.bind_some]
    exact if_pos ⟨⟨trivial, trivial, trivial⟩, ⟨by omega, by omega⟩, ⟨by omega, by omega⟩, trivial⟩

end Go.Proofs.Ytakblgcheakbnaa.Pure
