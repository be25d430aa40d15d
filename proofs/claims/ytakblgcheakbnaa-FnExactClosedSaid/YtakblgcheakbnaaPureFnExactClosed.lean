/- The program's Closed and the reference's answer alike at every row of nodes and every row of parts; no condition. -/
import Derived.Test.YtakblgcheakbnaaPFnExactClosedx8
import Derived.Test.YtakblgcheakbnaaRdFnExactClosed
set_option linter.unusedVariables false
set_option linter.unusedSimpArgs false
namespace Go.Proofs.Ytakblgcheakbnaa.Pure
open Go.RowKit Go.Proofs.Ytakblgcheakbnaa.PFnExactClosed Go.Proofs.YtakblgcheakbnaaW.PrintWords Go.Proofs.YtakblgcheakbnaaW.PrintLast Go.Proofs.YtakblgcheakbnaaW.PrintMore

theorem w64 (x : Int) (h0 : -9223372036854775808 ≤ x) (h1 : x ≤ 9223372036854775807) : wrap64 x = x := by unfold wrap64; omega
theorem w64s (i : Nat) (h : i ≤ 140737488355328) : wrap64 ((i : Int) + 1) = ((i + 1 : Nat) : Int) := by rw [w64 _ (by omega) (by omega)]; omega
theorem rd_nat (l : List Int) (i : Nat) : rd l (i : Int) = l.getD i 0 := by simp [rd]
theorem getD_lt (l : List Int) (i : Nat) (h : i < l.length) : l.getD i 0 = l[i] := by simp [List.getD_eq_getElem?_getD, h]

theorem laws_toIntS_run (x0 : List Int) (hn : x0.length ≤ 140737488351232) (d : Nat) : ∀ (k i : Nat) (x3 : List Int), i + d = x0.length → x3.length = x0.length → (∀ j, j < i → x3[j]? = x0[j]?) → d < k →
    laws_toIntS.l0 k x0 x3 (i : Int) = some x0 := by
  induction d with
  | zero =>
    intro k i x3 hi hl hj hk
    obtain ⟨k, rfl⟩ : ∃ m, k = m + 1 := ⟨k - 1, by omega⟩
    simp only [laws_toIntS.l0]
    rw [if_neg (by omega)]
    congr 1
    apply List.ext_getElem?
    intro j
    by_cases h : j < i
    · exact hj j h
    · rw [List.getElem?_eq_none (by omega), List.getElem?_eq_none (by omega)]
  | succ d ih =>
    intro k i x3 hi hl hj hk
    obtain ⟨k, rfl⟩ : ∃ m, k = m + 1 := ⟨k - 1, by omega⟩
    simp only [laws_toIntS.l0]
    rw [if_pos (by omega), if_pos (by omega), if_pos (by omega), w64s i (by omega)]
    refine ih k (i + 1) _ (by omega) (by simpa using hl) ?_ (by omega)
    intro j hji
    rw [Int.toNat_natCast, rd_nat, List.getElem?_set]
    by_cases h : i = j
    · subst h
      rw [if_pos rfl, if_pos (by omega), getD_lt _ _ (by omega), List.getElem?_eq_getElem (by omega)]
    · rw [if_neg h]
      exact hj j (by omega)
theorem laws_toIntS_f (l : List Int) (hn : l.length ≤ 1048576) (k : Nat) (hk : l.length < k) : laws_toIntS.f k l = some l := by
  unfold laws_toIntS.f
  rw [if_pos (by omega), if_pos (by omega)]
  exact laws_toIntS_run l (by omega) l.length k 0 _ (by omega) (by simp) (fun j hj => by omega) hk

theorem laws_eqIntS_run (x0 : List Int) (hn : x0.length ≤ 140737488351232) (d : Nat) : ∀ (k i : Nat), i + d = x0.length → d < k → laws_eqIntS.l0 k x0 x0 (i : Int) = some true := by
  induction d with
  | zero =>
    intro k i hi hk
    obtain ⟨k, rfl⟩ : ∃ m, k = m + 1 := ⟨k - 1, by omega⟩
    simp only [laws_eqIntS.l0]
    rw [if_neg (by omega)]
  | succ d ih =>
    intro k i hi hk
    obtain ⟨k, rfl⟩ : ∃ m, k = m + 1 := ⟨k - 1, by omega⟩
    simp only [laws_eqIntS.l0]
    rw [if_pos (by omega), if_pos (by omega), if_pos (by omega), if_pos trivial, w64s i (by omega)]
    exact ih k (i + 1) (by omega) (by omega)
theorem laws_eqIntS_f (l : List Int) (hn : l.length ≤ 140737488351232) (k : Nat) (hk : l.length < k) : laws_eqIntS.f k l l = some true := by
  unfold laws_eqIntS.f
  rw [if_pos rfl]
  exact laws_eqIntS_run l hn l.length k 0 (by omega) hk

/-- Parts: each number's is at most itself, and its own. -/
def goodAt (l : List Int) (i : Nat) : Prop := 0 ≤ l.getD i 0 ∧ l.getD i 0 ≤ (i : Int) ∧ l.getD (l.getD i 0).toNat 0 = l.getD i 0
instance (l : List Int) (i : Nat) : Decidable (goodAt l i) := by unfold goodAt; infer_instance
def okParts (l : List Int) : Bool := decide ((∀ i : Nat, i < l.length → goodAt l i) ∧ l.length ≤ 200)
theorem rd_int (l : List Int) (x : Int) : rd l x = l.getD x.toNat 0 := rfl
theorem spec_GoodParts_run (x0 : List Int) (hn : x0.length ≤ 200) (d : Nat) : ∀ (k i : Nat), i + d = x0.length → (∀ j : Nat, j < i → goodAt x0 j) → d < k →
    spec_GoodParts.l0 k x0 x0 (x0.length : Int) (i : Int) = some (okParts x0) := by
  induction d with
  | zero =>
    intro k i hi hj hk
    obtain ⟨k, rfl⟩ : ∃ m, k = m + 1 := ⟨k - 1, by omega⟩
    simp only [spec_GoodParts.l0]
    rw [if_neg (by omega)]
    congr 1
    symm
    exact decide_eq_true ⟨fun j hj' => hj j (by omega), hn⟩
  | succ d ih =>
    intro k i hi hj hk
    obtain ⟨k, rfl⟩ : ∃ m, k = m + 1 := ⟨k - 1, by omega⟩
    simp only [spec_GoodParts.l0]
    rw [if_pos (by omega), if_pos (by omega), if_pos (by omega), rd_nat]
    unfold spec_l1In.f
    by_cases h0 : x0.getD i 0 ≥ 0
    · rw [if_pos h0]
      by_cases h1 : x0.getD i 0 ≤ (i : Int)
      · rw [decide_eq_true h1, Option.bind_some, if_pos rfl, if_pos (by omega), if_pos (by omega), w64s i (by omega), rd_int]
        by_cases h2 : x0.getD (x0.getD i 0).toNat 0 = x0.getD i 0
        · rw [if_pos h2]
          exact ih k (i + 1) (by omega) (fun j hj' => by
            by_cases e : j = i
            · subst e; exact ⟨h0, h1, h2⟩
            · exact hj j (by omega)) (by omega)
        · rw [if_neg h2]
          congr 1
          symm
          exact decide_eq_false (fun h => h2 (h.1 i (by omega)).2.2)
      · rw [decide_eq_false h1, Option.bind_some, if_neg (by simp)]
        congr 1
        symm
        exact decide_eq_false (fun h => h1 (h.1 i (by omega)).2.1)
    · rw [if_neg h0, Option.bind_some, if_neg (by simp)]
      congr 1
      symm
      exact decide_eq_false (fun h => h0 (h.1 i (by omega)).1)
theorem spec_GoodParts_f (l : List Int) (k : Nat) (hk : l.length < k) : spec_GoodParts.f k l = some (okParts l) := by
  unfold spec_GoodParts.f
  by_cases h : (l.length : Int) > 200
  · rw [if_pos h]
    congr 1
    symm
    exact decide_eq_false (fun h' => by have := h'.2; omega)
  · rw [if_neg h]
    exact spec_GoodParts_run l (by omega) l.length k 0 (by omega) (fun j hj => by omega) hk
/-- Parents, as the program asks first. -/
def okPar (l : List Int) : Bool := decide ((∀ i : Nat, i < l.length → 0 ≤ l.getD i 0 ∧ l.getD i 0 ≤ (i : Int)) ∧ l.length ≤ 200)
theorem impl_parentsOK_run (x0 : List Int) (hn : x0.length ≤ 140737488351232) (d : Nat) : ∀ (k i : Nat), i + d = x0.length → (∀ j : Nat, j < i → 0 ≤ x0.getD j 0 ∧ x0.getD j 0 ≤ (j : Int)) → d < k →
    impl_parentsOK.l0 k x0 x0 (x0.length : Int) (i : Int) = some (okPar x0) := by
  induction d with
  | zero =>
    intro k i hi hj hk
    obtain ⟨k, rfl⟩ : ∃ m, k = m + 1 := ⟨k - 1, by omega⟩
    simp only [impl_parentsOK.l0]
    rw [if_neg (by omega)]
    congr 1
    unfold okPar
    rw [decide_eq_decide]
    constructor
    · intro h; exact ⟨fun j hj' => hj j (by omega), by omega⟩
    · intro h; have := h.2; omega
  | succ d ih =>
    intro k i hi hj hk
    obtain ⟨k, rfl⟩ : ∃ m, k = m + 1 := ⟨k - 1, by omega⟩
    simp only [impl_parentsOK.l0]
    rw [if_pos (by omega), if_pos (by omega), if_pos (by omega), rd_nat]
    unfold impl_within.f
    by_cases h0 : x0.getD i 0 ≥ 0
    · rw [if_pos h0]
      by_cases h1 : x0.getD i 0 ≤ (i : Int)
      · rw [decide_eq_true h1, Option.bind_some, if_pos rfl, w64s i (by omega)]
        exact ih k (i + 1) (by omega) (fun j hj' => by
          by_cases e : j = i
          · subst e; exact ⟨h0, h1⟩
          · exact hj j (by omega)) (by omega)
      · rw [decide_eq_false h1, Option.bind_some, if_neg (by simp)]
        congr 1
        symm
        exact decide_eq_false (fun h => h1 (h.1 i (by omega)).2)
    · rw [if_neg h0, Option.bind_some, if_neg (by simp)]
      congr 1
      symm
      exact decide_eq_false (fun h => h0 (h.1 i (by omega)).1)
theorem impl_parentsOK_f (l : List Int) (hn : l.length ≤ 140737488351232) (k : Nat) (hk : l.length < k) : impl_parentsOK.f k l = some (okPar l) :=
  impl_parentsOK_run l hn l.length k 0 (by omega) (fun j hj => by omega) hk
theorem impl_GoodParts_f (l : List Int) (hn : l.length ≤ 140737488351232) (k : Nat) (hk : l.length < k) : impl_GoodParts.f k l = some (okParts l) := by
  unfold impl_GoodParts.f
  rw [impl_parentsOK_f l hn k hk, Option.bind_some]
  cases hp : okPar l with
  | false =>
    rw [if_neg (by simp)]
    congr 1
    symm
    exact decide_eq_false (fun h => by
      have : okPar l = true := decide_eq_true ⟨fun i hi => ⟨(h.1 i hi).1, (h.1 i hi).2.1⟩, h.2⟩
      rw [hp] at this; cases this)
  | true =>
    have hp' := of_decide_eq_true hp
    rw [if_pos rfl]
    congr 1
    rw [Bool.eq_iff_iff]
    simp only [Bool.not_eq_true', List.any_eq_false, okParts, decide_eq_true_eq]
    constructor
    · intro h
      refine ⟨fun i hi => ⟨(hp'.1 i hi).1, (hp'.1 i hi).2, ?_⟩, hp'.2⟩
      have := h l[i] (List.getElem_mem hi)
      rw [getD_lt _ _ hi]
      simpa [rd_int] using this
    · intro h x hx
      obtain ⟨i, hi, rfl⟩ := List.getElem_of_mem hx
      have := (h.1 i hi).2.2
      rw [getD_lt _ _ hi] at this
      simpa [rd_int] using this

/-- The parts of which one's name is another's now. -/
def joinedBy (l : List Int) (keep gone : Int) : List Int := l.map fun x => if x = gone then keep else x
theorem join_run (l : List Int) (hn : l.length ≤ 1048576) (keep gone : Int) (d : Nat) : ∀ (i : Nat) (x : List Int), i + d = l.length → x.length = l.length → (∀ j : Nat, j < i → x[j]? = (joinedBy l keep gone)[j]?) → (∀ j : Nat, i ≤ j → x[j]? = l[j]?) → ∀ k, d < k →
    spec_l5Join.l0 k keep gone x l (l.length : Int) (i : Int) = some (joinedBy l keep gone) ∧ impl_joinIn.l0 k x keep gone (l.length : Int) (i : Int) = some ((keep != gone), joinedBy l keep gone) := by
  induction d with
  | zero =>
    intro i x hi hx hj hj2 k hk
    obtain ⟨k, rfl⟩ : ∃ m, k = m + 1 := ⟨k - 1, by omega⟩
    have : x = joinedBy l keep gone := by
      apply List.ext_getElem?
      intro j
      by_cases h : j < i
      · exact hj j h
      · rw [List.getElem?_eq_none (by omega), List.getElem?_eq_none (by simp [joinedBy]; omega)]
    simp only [spec_l5Join.l0, impl_joinIn.l0]
    rw [if_neg (by omega), if_neg (by omega), this]
    exact ⟨rfl, rfl⟩
  | succ d ih =>
    intro i x hi hx hj hj2 k hk
    obtain ⟨k, rfl⟩ : ∃ m, k = m + 1 := ⟨k - 1, by omega⟩
    have hxi : rd x (i : Int) = rd l (i : Int) := by
      rw [rd_nat, rd_nat, List.getD_eq_getElem?_getD, List.getD_eq_getElem?_getD, hj2 i (Nat.le_refl _)]
    have hli : rd l (i : Int) = l[i]'(by omega) := by rw [rd_nat, getD_lt _ _ (by omega)]
    have hM : (joinedBy l keep gone)[i]? = some (if rd l (i : Int) = gone then keep else rd l (i : Int)) := by
      rw [hli]; simp [joinedBy, List.getElem?_eq_getElem (show i < l.length by omega)]
    simp only [spec_l5Join.l0, impl_joinIn.l0, hxi]
    have c1 : (i : Int) < (l.length : Int) := by omega
    have c2 : (i : Int) < (x.length : Int) := by omega
    have c3 : 0 ≤ (i : Int) := by omega
    simp only [if_pos c1, if_pos c2, if_pos c3, w64s i (by omega)]
    by_cases e : rd l (i : Int) = gone
    · simp only [if_pos e]
      refine ih (i + 1) _ (by omega) (by simpa using hx) ?_ ?_ k (by omega)
      · intro j hji
        rw [Int.toNat_natCast, List.getElem?_set]
        by_cases h : i = j
        · subst h
          rw [if_pos rfl, if_pos (by omega), hM, if_pos e]
        · rw [if_neg h]; exact hj j (by omega)
      · intro j hji
        rw [Int.toNat_natCast, List.getElem?_set, if_neg (by omega)]
        exact hj2 j (by omega)
    · simp only [if_neg e]
      refine ih (i + 1) x (by omega) hx ?_ (fun j hji => hj2 j (by omega)) k (by omega)
      intro j hji
      by_cases h : i = j
      · subst h
        rw [hM, if_neg e, hj2 i (Nat.le_refl _), List.getElem?_eq_getElem (by omega), hli]
      · exact hj j (by omega)
theorem most_mx (x y : Int) : spec_l1Most.f x y = some (mx x y) := by
  unfold spec_l1Most.f mx
  by_cases c : x > y
  · rw [if_pos c, if_neg (by omega)]
  · rw [if_neg c]
    by_cases c2 : x < y
    · rw [if_pos c2]
    · rw [if_neg c2, show x = y by omega]
theorem least_mn (x y : Int) : spec_l1Least.f x y = some (mn x y) := by
  unfold spec_l1Least.f mn
  by_cases c : x < y
  · rw [if_pos c, if_neg (by omega)]
  · rw [if_neg c]
    by_cases c2 : y < x
    · rw [if_pos c2]
    · rw [if_neg c2, show x = y by omega]
theorem own_same (l : List Int) (hn : l.length ≤ 1048576) : spec_l1Own.f l = some l := by
  unfold spec_l1Own.f
  rw [Option.bind_some, if_pos (by simp only [List.length_nil]; omega), List.nil_append]
/-- The join of two numbers' parts. -/
def joinOf (l : List Int) (a b : Int) : List Int := joinedBy l (mn (rd l a) (rd l b)) (mx (rd l a) (rd l b))
theorem spec_l5Join_f (l : List Int) (hn : l.length ≤ 1048576) (a b : Int) (ha : 0 ≤ a ∧ a < (l.length : Int)) (hb : 0 ≤ b ∧ b < (l.length : Int)) (k : Nat) (hk : l.length < k) : spec_l5Join.f k l a b = some (joinOf l a b) := by
  unfold spec_l5Join.f
  rw [if_pos ha.1, if_pos ha.2, if_pos hb.1, if_pos hb.2]
  simp only [least_mn, most_mx, own_same l hn, Option.bind_some]
  exact (join_run l hn _ _ l.length 0 l (by omega) rfl (fun j hj => by omega) (fun _ _ => rfl) k hk).1
theorem impl_joinIn_f (l : List Int) (hn : l.length ≤ 1048576) (a b : Int) (ha : 0 ≤ a ∧ a < (l.length : Int)) (hb : 0 ≤ b ∧ b < (l.length : Int)) (k : Nat) (hk : l.length < k) : impl_joinIn.f k l a b = some ((mn (rd l a) (rd l b) != mx (rd l a) (rd l b)), joinOf l a b) := by
  unfold impl_joinIn.f
  rw [if_pos ha.1, if_pos ha.2, if_pos hb.1, if_pos hb.2]
  exact (join_run l hn _ _ l.length 0 l (by omega) rfl (fun j hj => by omega) (fun _ _ => rfl) k hk).2

/-- What markIntS writes: numbers from one on. -/
def marked (xs : List Int) (m : Int) : List Int := (List.range xs.length).map fun j : Nat => m + (j : Int)
theorem laws_markIntS_run (n : Nat) (hn : n ≤ 140737480000000) (m0 : Nat) (hm0 : m0 ≤ 3000000) (d : Nat) : ∀ (k i : Nat) (x : List Int), i + d = n → x.length = n → (∀ j, j < i → x[j]? = some ((m0 : Int) + (j : Int))) → d < k →
    laws_markIntS.l0 k x (((m0 + i : Nat)) : Int) (i : Int) = some (((m0 + n : Nat) : Int), (List.range n).map fun j : Nat => ((m0 : Int) + (j : Int))) := by
  induction d with
  | zero =>
    intro k i x hi hl hj hk
    obtain ⟨k, rfl⟩ : ∃ m, k = m + 1 := ⟨k - 1, by omega⟩
    simp only [laws_markIntS.l0]
    rw [if_neg (by omega)]
    have e : i = n := by omega
    subst e
    congr 2
    apply List.ext_getElem?
    intro j
    by_cases h : j < i
    · rw [hj j h, List.getElem?_map, List.getElem?_range h]; rfl
    · rw [List.getElem?_eq_none (by omega), List.getElem?_eq_none (by simp; omega)]
  | succ d ih =>
    intro k i x hi hl hj hk
    obtain ⟨k, rfl⟩ : ∃ m, k = m + 1 := ⟨k - 1, by omega⟩
    simp only [laws_markIntS.l0]
    rw [if_pos (by omega), if_pos (by omega), w64s i (by omega), w64s (m0 + i) (by omega)]
    refine ih k (i + 1) _ (by omega) (by simpa using hl) ?_ (by omega)
    intro j hji
    rw [Int.toNat_natCast, List.getElem?_set]
    by_cases h : i = j
    · subst h
      rw [if_pos rfl, if_pos (by omega)]
      congr 1
    · rw [if_neg h]
      exact hj j (by omega)
theorem laws_heldIntS_run (n : Nat) (hn : n ≤ 140737480000000) (m0 : Nat) (hm0 : m0 ≤ 3000000) (d : Nat) : ∀ (k i : Nat), i + d = n → d < k →
    laws_heldIntS.l0 k ((List.range n).map fun j : Nat => ((m0 : Int) + (j : Int))) (((m0 + i : Nat)) : Int) (i : Int) = some (((m0 + n : Nat) : Int)) := by
  induction d with
  | zero =>
    intro k i hi hk
    obtain ⟨k, rfl⟩ : ∃ m, k = m + 1 := ⟨k - 1, by omega⟩
    simp only [laws_heldIntS.l0]
    rw [if_neg (by simp; omega)]
    congr 2
    omega
  | succ d ih =>
    intro k i hi hk
    obtain ⟨k, rfl⟩ : ∃ m, k = m + 1 := ⟨k - 1, by omega⟩
    simp only [laws_heldIntS.l0]
    have hr : rd ((List.range n).map fun j : Nat => ((m0 : Int) + (j : Int))) (i : Int) = ((m0 + i : Nat) : Int) := by
      rw [rd_nat, getD_lt _ _ (by simp; omega)]
      simp
    rw [if_pos (by simp; omega), if_pos (by omega), hr, if_pos rfl, w64s i (by omega), w64s (m0 + i) (by omega)]
    exact ih k (i + 1) (by omega) (by omega)
theorem laws_markIntS_f (x : List Int) (hn : x.length ≤ 140737480000000) (k : Nat) (hk : x.length < k) : laws_markIntS.f k x 1 = some (((1 + x.length : Nat) : Int), (List.range x.length).map fun j : Nat => ((1 : Nat) : Int) + (j : Int)) :=
  laws_markIntS_run x.length hn 1 (by omega) x.length k 0 x (by omega) rfl (fun j hj => by omega) hk
theorem laws_heldIntS_f (n : Nat) (hn : n ≤ 140737480000000) (k : Nat) (hk : n < k) : laws_heldIntS.f k ((List.range n).map fun j : Nat => ((1 : Nat) : Int) + (j : Int)) 1 = some (((1 + n : Nat) : Int)) :=
  laws_heldIntS_run n hn 1 (by omega) n k 0 (by omega) hk
theorem laws_markIntS_g (x : List Int) (hn : x.length ≤ 140737480000000) (m0 : Nat) (hm0 : m0 ≤ 3000000) (k : Nat) (hk : x.length < k) : laws_markIntS.f k x (m0 : Int) = some (((m0 + x.length : Nat) : Int), (List.range x.length).map fun j : Nat => (m0 : Int) + (j : Int)) :=
  laws_markIntS_run x.length hn m0 hm0 x.length k 0 x (by omega) rfl (fun j hj => by omega) hk

def cvE (x : S130) : S114 := ⟨x.f0, x.f1, x.f2⟩
theorem szI_f (l : List Int) (m : Int) (hm0 : 0 ≤ m) (hm : m ≤ 1048576) (hl : l.length ≤ 9223372036854775807) : laws_szIntS.f l m = some (if m - (l.length : Int) < 0 then -1 else m - (l.length : Int)) := by
  unfold laws_szIntS.f
  have e : wrap64 (m - (l.length : Int)) = m - (l.length : Int) := by unfold wrap64; omega
  rw [e]
  split <;> rfl
theorem rdLE_nat (l : List S130) (i : Nat) (h : i < l.length) : rd_T130 l (i : Int) = l[i] := by unfold rd_T130; rw [Int.toNat_natCast, List.getD_eq_getElem?_getD, List.getElem?_eq_getElem h]; rfl
theorem rdE_nat (l : List S114) (i : Nat) (h : i < l.length) : rd_T114 l (i : Int) = l[i] := by unfold rd_T114; rw [Int.toNat_natCast, List.getD_eq_getElem?_getD, List.getElem?_eq_getElem h]; rfl
theorem szE_run (x0 : List S130) (hn : x0.length ≤ 1048576) (hin : ∀ x ∈ x0, x.f2.length ≤ 9223372036854775807) (d : Nat) : ∀ (k i : Nat) (m : Int), i + d = x0.length → d < k → 0 ≤ m → m ≤ 1048576 →
    ∃ t, laws_szENodeS.l0 k x0 m (i : Int) = some t ∧ (t < 0 ∨ (0 ≤ t ∧ t + ((((x0.drop i).map fun x => x.f2.length).sum : Nat) : Int) = m ∧ ∀ j, i ≤ j → (h : j < x0.length) → x0[j].f2.length ≤ 1048576)) := by
  induction d with
  | zero =>
    intro k i m hi hk h0 h1
    obtain ⟨k, rfl⟩ : ∃ j, k = j + 1 := ⟨k - 1, by omega⟩
    simp only [laws_szENodeS.l0]
    rw [if_neg (by omega)]
    exact ⟨_, rfl, .inr ⟨h0, by rw [List.drop_of_length_le (by omega)]; simp, fun j hj h => by omega⟩⟩
  | succ d ih =>
    intro k i m hi hk h0 h1
    obtain ⟨k, rfl⟩ : ∃ j, k = j + 1 := ⟨k - 1, by omega⟩
    have hil : i < x0.length := by omega
    have hx := hin _ (List.getElem_mem hil)
    simp only [laws_szENodeS.l0]
    rw [if_pos (by omega), if_pos (by omega), rdLE_nat _ i hil]
    unfold laws_szENode.f
    rw [szI_f _ m h0 h1 hx, Option.bind_some]
    by_cases hneg : m - (x0[i].f2.length : Int) < 0
    · rw [if_pos hneg, if_pos (by omega), Option.bind_some, if_pos (by omega)]
      exact ⟨_, rfl, .inl (by omega)⟩
    · rw [if_neg hneg, if_neg (by omega), Option.bind_some, if_neg (by omega), w64s i (by omega)]
      obtain ⟨t, ht, hh⟩ := ih k (i + 1) (m - (x0[i].f2.length : Int)) (by omega) (by omega) (by omega) (by omega)
      refine ⟨t, ht, hh.imp id (fun h => ⟨h.1, by have h2 := h.2.1; rw [List.drop_eq_getElem_cons hil, List.map_cons, List.sum_cons]; omega, fun j hj hjl => ?_⟩)⟩
      by_cases e : j = i
      · subst e; omega
      · exact h.2.2 j (by omega) hjl
theorem szE_f (l : List S130) (m : Int) (h0 : 0 ≤ m) (hm : m ≤ 1048576) (hl : l.length ≤ 9223372036854775807) (hin : ∀ x ∈ l, x.f2.length ≤ 9223372036854775807) (k : Nat) (hk : 1048576 < k) : ∃ t, laws_szENodeS.f k l m = some t ∧ (t < 0 ∨ (0 ≤ t ∧ t ≤ 1048576 ∧ l.length ≤ 1048576 ∧ (∀ x ∈ l, x.f2.length ≤ 1048576) ∧ (l.map fun x => x.f2.length).sum ≤ 1048576)) := by
  unfold laws_szENodeS.f
  have e : wrap64 (m - (l.length : Int)) = m - (l.length : Int) := by unfold wrap64; omega
  rw [e]
  by_cases h : m - (l.length : Int) < 0
  · rw [if_pos h]; exact ⟨_, rfl, .inl (by omega)⟩
  · rw [if_neg h]
    obtain ⟨t, ht, hh⟩ := szE_run l (by omega) hin l.length k 0 (m - (l.length : Int)) (by omega) (by omega) (by omega) (by omega)
    refine ⟨t, ht, hh.imp id (fun h => ?_)⟩
    have h2 := h.2.1
    rw [List.drop_zero] at h2
    refine ⟨h.1, by omega, by omega, fun x hx => ?_, by omega⟩
    obtain ⟨j, hj, rfl⟩ := List.getElem_of_mem hx
    exact h.2.2 j (Nat.zero_le _) hj
theorem toE_run (x0 : List S130) (hn : x0.length ≤ 1048576) (hin : ∀ x ∈ x0, x.f2.length ≤ 1048576) (d : Nat) : ∀ (k i : Nat) (x3 : List S114), i + d = x0.length → x3.length = x0.length → (∀ j, j < i → x3[j]? = (x0.map cvE)[j]?) → d + 1048577 < k →
    laws_toENodeS.l0 k x0 x3 (i : Int) = some (x0.map cvE) := by
  induction d with
  | zero =>
    intro k i x3 hi hl hj hk
    obtain ⟨k, rfl⟩ : ∃ m, k = m + 1 := ⟨k - 1, by omega⟩
    simp only [laws_toENodeS.l0]
    rw [if_neg (by omega)]
    congr 1
    apply List.ext_getElem?
    intro j
    by_cases h : j < i
    · exact hj j h
    · rw [List.getElem?_eq_none (by omega), List.getElem?_eq_none (by rw [List.length_map]; omega)]
  | succ d ih =>
    intro k i x3 hi hl hj hk
    obtain ⟨k, rfl⟩ : ∃ m, k = m + 1 := ⟨k - 1, by omega⟩
    have hil : i < x0.length := by omega
    have hx := hin _ (List.getElem_mem hil)
    simp only [laws_toENodeS.l0]
    rw [if_pos (by omega), if_pos (by omega), rdLE_nat _ i hil]
    unfold laws_toENode.f
    rw [laws_toIntS_f _ hx k (by omega), Option.bind_some, Option.bind_some, if_pos (by omega), w64s i (by omega)]
    refine ih k (i + 1) _ (by omega) (by simpa using hl) ?_ (by omega)
    intro j hji
    rw [Int.toNat_natCast, List.getElem?_set]
    by_cases h : i = j
    · subst h
      rw [if_pos rfl, if_pos (by omega), List.getElem?_map, List.getElem?_eq_getElem hil]
      rfl
    · rw [if_neg h]
      exact hj j (by omega)
theorem toE_f (l : List S130) (hn : l.length ≤ 1048576) (hin : ∀ x ∈ l, x.f2.length ≤ 1048576) (k : Nat) (hk : 2097160 < k) : laws_toENodeS.f k l = some (l.map cvE) := by
  unfold laws_toENodeS.f
  rw [if_pos (by omega), if_pos (by omega)]
  exact toE_run l hn hin l.length k 0 _ (by omega) (by simp) (fun j hj => by omega) (by omega)
theorem eqE_run (x0 : List S114) (hn : x0.length ≤ 1048576) (hin : ∀ x ∈ x0, x.f2.length ≤ 1048576) (d : Nat) : ∀ (k i : Nat), i + d = x0.length → d + 1048577 < k → laws_eqENodeS.l0 k x0 x0 (i : Int) = some true := by
  induction d with
  | zero =>
    intro k i hi hk
    obtain ⟨k, rfl⟩ : ∃ m, k = m + 1 := ⟨k - 1, by omega⟩
    simp only [laws_eqENodeS.l0]
    rw [if_neg (by omega)]
  | succ d ih =>
    intro k i hi hk
    obtain ⟨k, rfl⟩ : ∃ m, k = m + 1 := ⟨k - 1, by omega⟩
    have hil : i < x0.length := by omega
    have hx := hin _ (List.getElem_mem hil)
    simp only [laws_eqENodeS.l0]
    rw [if_pos (by omega), if_pos (by omega), if_pos (by omega), rdE_nat _ i hil]
    unfold laws_eqENode.f
    rw [laws_eqIntS_f _ (by omega) k (by omega), if_pos rfl, if_pos rfl, Option.bind_some, if_pos rfl, Option.bind_some, if_pos rfl, w64s i (by omega)]
    exact ih k (i + 1) (by omega) (by omega)
theorem eqE_f (l : List S114) (hn : l.length ≤ 1048576) (hin : ∀ x ∈ l, x.f2.length ≤ 1048576) (k : Nat) (hk : 2097160 < k) : laws_eqENodeS.f k l l = some true := by
  unfold laws_eqENodeS.f
  rw [if_pos rfl]
  exact eqE_run l hn hin l.length k 0 (by omega) (by omega)
theorem cvE_len (l : List S130) (hin : ∀ x ∈ l, x.f2.length ≤ 1048576) : ∀ x ∈ l.map cvE, x.f2.length ≤ 1048576 := fun x hx => by
  obtain ⟨y, hy, rfl⟩ := List.mem_map.1 hx
  exact hin y hy

/-- A test at d places from i on. -/
def allB (p : Nat → Bool) : Nat → Nat → Bool
  | _, 0 => true
  | i, d + 1 => p i && allB p (i + 1) d
theorem allB_iff (p : Nat → Bool) (d : Nat) : ∀ i, allB p i d = true ↔ ∀ j, i ≤ j → j < i + d → p j = true := by
  induction d with
  | zero => intro i; exact ⟨fun _ j h1 h2 => by omega, fun _ => rfl⟩
  | succ d ih =>
    intro i
    simp only [allB, Bool.and_eq_true, ih (i + 1)]
    constructor
    · intro h j h1 h2
      by_cases e : j = i
      · subst e; exact h.1
      · exact h.2 j (by omega) (by omega)
    · intro h
      exact ⟨h i (Nat.le_refl _) (by omega), fun j h1 h2 => h j (by omega) (by omega)⟩
theorem allB_congr {p q : Nat → Bool} (d : Nat) : ∀ i, (∀ j, i ≤ j → j < i + d → p j = q j) → allB p i d = allB q i d := by
  induction d with
  | zero => intro i _; rfl
  | succ d ih =>
    intro i h
    simp only [allB]
    rw [h i (Nat.le_refl _) (by omega), ih (i + 1) (fun j h1 h2 => h j (by omega) (by omega))]

/-- A node is right, its kids below a number. -/
def enOK (x : S114) (k : Nat) : Bool := (Tree.numOK x.f0 x.f1 && ((x.f2.length : Int) == Tree.arity x.f0)) && x.f2.all fun c => decide (0 ≤ c ∧ c < (k : Int))
def loose (l : List S114) : Bool := allB (fun i => enOK (l.getD i z114) i) 0 l.length && decide (l.length ≤ 120)
theorem rdE_getD (l : List S114) (i : Nat) : rd_T114 l (i : Int) = l.getD i z114 := by unfold rd_T114; rw [Int.toNat_natCast]
theorem outB_eq (kids : List Int) (k : Nat) (hk : k ≤ 1048576) : (!outB kids (k : Int)) = kids.all fun c => decide (0 ≤ c ∧ c < (k : Int)) := by
  unfold outB
  have e : wrap64 ((k : Int) - 1) = (k : Int) - 1 := by unfold wrap64; omega
  rw [e]
  induction kids with
  | nil => rfl
  | cons x t ih =>
    rw [List.any_cons, List.all_cons, ← ih, Bool.not_or, Bool.not_not]
    congr 1
    rw [decide_eq_decide]; omega
theorem enodeOK_f (x : S114) (k : Nat) (hk : k ≤ 1048576) : impl_enodeOK.f x.f0 x.f1 x.f2 (k : Int) = some (enOK x k) := by
  unfold impl_enodeOK.f enOK
  rw [outB_eq _ k hk, Bool.and_assoc]
theorem looseOK_run (l : List S114) (hl : l.length ≤ 1048576) (d : Nat) : ∀ (k i : Nat), i + d = l.length → d < k →
    impl_looseOK.l0 k l l (l.length : Int) (i : Int) = some (allB (fun i => enOK (l.getD i z114) i) i d && decide (l.length ≤ 120)) := by
  induction d with
  | zero =>
    intro k i hi hk
    obtain ⟨k, rfl⟩ : ∃ m, k = m + 1 := ⟨k - 1, by omega⟩
    simp only [impl_looseOK.l0, allB]
    rw [if_neg (by omega), Bool.true_and]
    congr 1
    rw [decide_eq_decide]; omega
  | succ d ih =>
    intro k i hi hk
    obtain ⟨k, rfl⟩ : ∃ m, k = m + 1 := ⟨k - 1, by omega⟩
    simp only [impl_looseOK.l0, allB]
    rw [if_pos (by omega), if_pos (by omega), if_pos (by omega), rdE_getD, enodeOK_f _ i (by omega), Option.bind_some, w64s i (by omega), ih k (i + 1) (by omega) (by omega)]
    cases enOK (l.getD i z114) i <;> rfl
theorem looseOK_f (l : List S114) (hl : l.length ≤ 1048576) (k : Nat) (hk : l.length < k) : impl_looseOK.f k l = some (loose l) := by
  unfold impl_looseOK.f loose
  exact looseOK_run l hl l.length k 0 (by omega) hk
theorem specArity_f (k : Nat) (hk : 0 < k) (op : Int) : spec_l1Arity.f k op = some (if 1 ≤ op ∧ op ≤ 11 then Tree.arity op else -1) := by
  obtain ⟨k, rfl⟩ : ∃ m, k = m + 1 := ⟨k - 1, by omega⟩
  unfold spec_l1Arity.f Tree.arity
  by_cases h1 : op = 1
  · subst h1; rfl
  · rw [if_neg h1]
    by_cases h2 : op = 2
    · subst h2; rfl
    · rw [if_neg (by omega : ¬ (op = 1 ∨ op = 2))]
      simp only [spec_l1Arity.j0]
      rw [if_neg (by simpa using h2)]
      by_cases h3 : op = 3
      · subst h3; rfl
      · rw [if_neg h3, if_neg h3]
        by_cases h4 : op = 11
        · subst h4; rfl
        · rw [if_neg h4, if_neg h4]
          unfold spec_l1In.f
          by_cases h5 : op ≥ 4
          · by_cases h6 : op ≤ 10
            · rw [if_pos h5, Option.bind_some, decide_eq_true h6, if_pos rfl, if_pos (by omega)]
            · rw [if_pos h5, Option.bind_some, decide_eq_false h6, if_neg (by simp), if_neg (by omega)]
          · rw [if_neg h5, Option.bind_some, if_neg (by simp), if_neg (by omega)]
theorem l6Node_f (op n : Int) (kids : List Int) (k : Nat) (hk : 0 < k) : spec_l6Node.f k op n kids = some (Tree.numOK op n && ((kids.length : Int) == Tree.arity op)) := by
  unfold spec_l6Node.f
  rw [specArity_f k hk, Option.bind_some]
  obtain ⟨k, rfl⟩ : ∃ m, k = m + 1 := ⟨k - 1, by omega⟩
  have hr := Tree.arity_range op
  by_cases hop : 1 ≤ op ∧ op ≤ 11
  · rw [if_pos hop, if_neg (by omega)]
    simp only [spec_l6Node.j0]
    by_cases hl : (kids.length : Int) = Tree.arity op
    · rw [bne_eq_false_iff_eq.2 hl, if_neg (by simp), beq_iff_eq.2 hl, Bool.and_true]
      unfold Tree.numOK
      by_cases h1 : op = 1
      · rw [if_pos h1, if_pos h1]
      · rw [if_neg h1, if_neg h1]
        by_cases h2 : op = 2
        · rw [if_pos h2, if_pos h2]
          by_cases h3 : n ≥ 0
          · rw [if_pos h3]; congr 1; rw [decide_eq_decide]; omega
          · rw [if_neg h3, decide_eq_false (by omega)]
        · rw [if_neg h2, if_neg h2]
          congr 1
          rw [Bool.eq_iff_iff]; simp; omega
    · rw [bne_iff_ne.2 hl, if_pos rfl, beq_eq_false_iff_ne.2 hl, Bool.and_false]
  · rw [if_neg hop, if_pos (by omega)]
    simp only [spec_l6Node.j0]
    rw [if_pos trivial]
    unfold Tree.numOK
    rw [if_neg (by omega), if_neg (by omega), decide_eq_false (by omega), Bool.false_and]
theorem l1In_f (a b c : Int) : spec_l1In.f a b c = some (decide (b ≤ a ∧ a ≤ c)) := by
  unfold spec_l1In.f
  by_cases h : a ≥ b
  · rw [if_pos h]; congr 1; rw [decide_eq_decide]; omega
  · rw [if_neg h, decide_eq_false (by omega)]
theorem l1All_run (l : List Int) (lo hi : Int) (hl : l.length ≤ 1048576) (d : Nat) : ∀ (k i : Nat), i + d = l.length → d < k → spec_l1All.l0 k lo hi l (l.length : Int) (i : Int) = some ((l.drop i).all fun c => decide (lo ≤ c ∧ c ≤ hi)) := by
  induction d with
  | zero =>
    intro k i hi' hk
    obtain ⟨k, rfl⟩ : ∃ m, k = m + 1 := ⟨k - 1, by omega⟩
    simp only [spec_l1All.l0]
    rw [if_neg (by omega), List.drop_of_length_le (by omega)]
    rfl
  | succ d ih =>
    intro k i hi' hk
    obtain ⟨k, rfl⟩ : ∃ m, k = m + 1 := ⟨k - 1, by omega⟩
    have hil : i < l.length := by omega
    simp only [spec_l1All.l0]
    rw [if_pos (by omega), if_pos (by omega), if_pos (by omega), l1In_f, Option.bind_some, w64s i (by omega), ih k (i + 1) (by omega) (by omega), List.drop_eq_getElem_cons hil, List.all_cons, rd_nat, getD_lt l i hil]
    cases decide (lo ≤ l[i] ∧ l[i] ≤ hi) <;> rfl
theorem l1All_f (l : List Int) (lo hi : Int) (hl : l.length ≤ 1048576) (k : Nat) (hk : l.length < k) : spec_l1All.f k l lo hi = some (l.all fun c => decide (lo ≤ c ∧ c ≤ hi)) := by
  unfold spec_l1All.f
  have := l1All_run l lo hi hl l.length k 0 (by omega) hk
  rw [List.drop_zero] at this
  exact this
theorem l6Nodes_run (l : List S114) (hl : l.length ≤ 1048576) (hin : ∀ x ∈ l, x.f2.length ≤ 1048576) (d : Nat) : ∀ (k i : Nat), i + d = l.length → d + 1048577 < k →
    spec_l6Nodes.l0 k l (l.length : Int) (i : Int) = some (allB (fun i => enOK (l.getD i z114) i) i d) := by
  induction d with
  | zero =>
    intro k i hi hk
    obtain ⟨k, rfl⟩ : ∃ m, k = m + 1 := ⟨k - 1, by omega⟩
    simp only [spec_l6Nodes.l0, allB]
    rw [if_neg (by omega)]
  | succ d ih =>
    intro k i hi hk
    obtain ⟨k, rfl⟩ : ∃ m, k = m + 1 := ⟨k - 1, by omega⟩
    have hil : i < l.length := by omega
    have hx : (l.getD i z114).f2.length ≤ 1048576 := by
      rw [List.getD_eq_getElem?_getD, List.getElem?_eq_getElem hil]
      exact hin _ (List.getElem_mem hil)
    have e : wrap64 ((i : Int) - 1) = (i : Int) - 1 := by unfold wrap64; omega
    simp only [spec_l6Nodes.l0, allB]
    rw [if_pos (by omega), if_pos (by omega), if_pos (by omega), rdE_getD, l6Node_f _ _ _ k (by omega), Option.bind_some, w64s i (by omega), ih k (i + 1) (by omega) (by omega), e, l1All_f _ _ _ hx k (by omega)]
    have e2 : (fun c : Int => decide (0 ≤ c ∧ c ≤ (i : Int) - 1)) = fun c => decide (0 ≤ c ∧ c < (i : Int)) := by
      funext c; rw [decide_eq_decide]; omega
    rw [e2]
    unfold enOK
    generalize l.getD i z114 = x
    cases (Tree.numOK x.f0 x.f1 && ((x.f2.length : Int) == Tree.arity x.f0)) with
    | false => rfl
    | true =>
      rw [if_pos rfl, Option.bind_some]
      cases (x.f2.all fun c => decide (0 ≤ c ∧ c < (i : Int))) <;> rfl
theorem l6Nodes_f (l : List S114) (hl : l.length ≤ 1048576) (hin : ∀ x ∈ l, x.f2.length ≤ 1048576) (k : Nat) (hk : 2097160 < k) : spec_l6Nodes.f k l = some (loose l) := by
  unfold spec_l6Nodes.f loose
  by_cases h : (l.length : Int) > 120
  · rw [if_pos h, decide_eq_false (by omega), Bool.and_false]
  · rw [if_neg h, decide_eq_true (by omega), Bool.and_true]
    exact l6Nodes_run l hl hin l.length k 0 (by omega) (by omega)
theorem loose_at {l : List S114} (h : loose l = true) (i : Nat) (hi : i < l.length) : enOK (l.getD i z114) i = true := by
  unfold loose at h
  rw [Bool.and_eq_true, allB_iff] at h
  exact h.1 i (Nat.zero_le _) (by omega)
theorem loose_len {l : List S114} (h : loose l = true) : l.length ≤ 120 := by
  unfold loose at h
  rw [Bool.and_eq_true] at h
  exact of_decide_eq_true h.2
theorem enOK_kids {x : S114} {k : Nat} (h : enOK x k = true) : x.f2.length ≤ 3 ∧ ∀ c ∈ x.f2, 0 ≤ c ∧ c < (k : Int) := by
  unfold enOK at h
  simp only [Bool.and_eq_true, beq_iff_eq, List.all_eq_true, decide_eq_true_eq] at h
  have := Tree.arity_range x.f0
  exact ⟨by omega, h.2⟩
/-- Two nodes are the same. -/
theorem l1Same_run (a b : List Int) (hab : a.length = b.length) (hl : a.length ≤ 1048576) (d : Nat) : ∀ (k i : Nat), i + d = a.length → d < k → spec_l1Same.l0 k a b (a.length : Int) (i : Int) = some (a.drop i == b.drop i) := by
  induction d with
  | zero =>
    intro k i hi hk
    obtain ⟨k, rfl⟩ : ∃ m, k = m + 1 := ⟨k - 1, by omega⟩
    simp only [spec_l1Same.l0]
    rw [if_neg (by omega), List.drop_of_length_le (by omega), List.drop_of_length_le (by omega)]
    rfl
  | succ d ih =>
    intro k i hi hk
    obtain ⟨k, rfl⟩ : ∃ m, k = m + 1 := ⟨k - 1, by omega⟩
    have ha : i < a.length := by omega
    have hb : i < b.length := by omega
    simp only [spec_l1Same.l0]
    rw [if_pos (by omega), if_pos (by omega), if_pos (by omega), if_pos (by omega), rd_nat, rd_nat, getD_lt a i ha, getD_lt b i hb, w64s i (by omega), ih k (i + 1) (by omega) (by omega), List.drop_eq_getElem_cons ha, List.drop_eq_getElem_cons hb]
    by_cases h : a[i] = b[i]
    · rw [if_pos h, h]; congr 1; rw [Bool.eq_iff_iff, beq_iff_eq, beq_iff_eq]; exact ⟨fun e => by rw [e], fun e => (List.cons.inj e).2⟩
    · rw [if_neg h]; congr 1; symm; rw [beq_eq_false_iff_ne]; intro e; exact h (List.cons.inj e).1
theorem l1Same_f (a b : List Int) (hl : a.length ≤ 1048576) (k : Nat) (hk : a.length < k) : spec_l1Same.f k a b = some (a == b) := by
  unfold spec_l1Same.f
  by_cases h : a.length = b.length
  · rw [if_pos (by omega)]
    have := l1Same_run a b h hl a.length k 0 (by omega) hk
    rw [List.drop_zero, List.drop_zero] at this
    exact this
  · rw [if_neg (by omega)]; congr 1; symm; rw [beq_eq_false_iff_ne]; intro e; exact h (by rw [e])

theorem enW_cv (n : List S130) (hn : n.length ≤ 1048576) (hs : (n.map fun x => x.f2.length).sum ≤ 1048576) : enW (n.map cvE) ≤ 3145728 := by
  have h : enW (n.map cvE) = (n.map fun x => x.f2.length).sum + 2 * n.length := by
    clear hn hs
    unfold enW
    induction n with
    | nil => rfl
    | cons x t ih =>
      simp only [List.map_cons, List.sum_cons, List.length_cons] at ih ⊢
      rw [ih]
      show x.f2.length + 2 + _ = _
      omega
  omega

/-- The kids' parts, as the reference lists them. -/
theorem l6Kids_run (p x8 : List Int) (hl : x8.length ≤ 1048576) (hin : ∀ c ∈ x8, 0 ≤ c ∧ c < (p.length : Int)) (d : Nat) : ∀ (k i : Nat) (acc : List Int), i + d = x8.length → acc.length ≤ i → d < k → spec_l6Kids.l0 k p acc x8 (x8.length : Int) (i : Int) = some (acc ++ (x8.drop i).map (rd p)) := by
  induction d with
  | zero =>
    intro k i acc hi ha hk
    obtain ⟨k, rfl⟩ : ∃ m, k = m + 1 := ⟨k - 1, by omega⟩
    simp only [spec_l6Kids.l0]
    rw [if_neg (by omega), List.drop_of_length_le (by omega), List.map_nil, List.append_nil]
  | succ d ih =>
    intro k i acc hi ha hk
    obtain ⟨k, rfl⟩ : ∃ m, k = m + 1 := ⟨k - 1, by omega⟩
    have hil : i < x8.length := by omega
    have e : rd x8 (i : Int) = x8[i] := by rw [rd_nat, getD_lt _ _ hil]
    have hc := hin _ (List.getElem_mem hil)
    have e1 : wrap64 ((i : Int) + 1) = ((i + 1 : Nat) : Int) := by unfold wrap64; omega
    simp only [spec_l6Kids.l0]
    rw [if_pos (by omega), if_pos (by omega), if_pos (by omega), e, if_pos hc.1, if_pos hc.2, if_pos (by omega), e1, ih k (i + 1) _ (by omega) (by simp; omega) (by omega), List.drop_eq_getElem_cons hil, List.map_cons, List.append_assoc, List.singleton_append]
theorem l6Kids_f (p x8 : List Int) (hl : x8.length ≤ 1048576) (hin : ∀ c ∈ x8, 0 ≤ c ∧ c < (p.length : Int)) (k : Nat) (hk : x8.length < k) : spec_l6Kids.f k p x8 = some (x8.map (rd p)) := by
  unfold spec_l6Kids.f
  have := l6Kids_run p x8 hl hin x8.length k 0 [] (by omega) (by simp) hk
  rw [List.drop_zero, List.nil_append] at this
  exact this
theorem zip_map (p : List Int) : ∀ a b : List Int, (decide (a.length = b.length) && (List.zip a b).all fun q => rd p q.1 == rd p q.2) = (b.map (rd p) == a.map (rd p)) := by
  intro a
  induction a with
  | nil => intro b; cases b with | nil => rfl | cons => simp
  | cons x xs ih =>
    intro b
    cases b with
    | nil => simp
    | cons y ys =>
      have h := ih ys
      simp only [List.length_cons, List.zip_cons_cons, List.all_cons, List.map_cons, Nat.add_right_cancel_iff]
      rw [List.cons_beq_cons, ← h, show (rd p y == rd p x) = (rd p x == rd p y) from by rw [Bool.eq_iff_iff, beq_iff_eq, beq_iff_eq]; exact eq_comm]
      cases decide (xs.length = ys.length) <;> cases (rd p x == rd p y) <;> rfl
theorem specAlikeK (x y : S114) (q : List Int) (hx : x.f2.length ≤ 3 ∧ ∀ c ∈ x.f2, 0 ≤ c ∧ c < (q.length : Int)) (hy : y.f2.length ≤ 3 ∧ ∀ c ∈ y.f2, 0 ≤ c ∧ c < (q.length : Int)) (k : Nat) (hk : 4 < k) (A B : Option (List Int)) :
    (if x.f0 = y.f0 then (if x.f1 = y.f1 then ((spec_l6Kids.f k q x.f2).bind fun t => ((spec_l6Kids.f k q y.f2).bind fun u => ((spec_l1Same.f k t u).bind fun b => (if b = true then A else B)))) else B) else B) = if congB y x q = true then A else B := by
  unfold congB
  rw [l6Kids_f q x.f2 (by omega) hx.2 k (by omega), l6Kids_f q y.f2 (by omega) hy.2 k (by omega), Option.bind_some, Option.bind_some, l1Same_f _ _ (by simp; omega) k (by simp; omega), Option.bind_some, zip_map]
  by_cases h0 : x.f0 = y.f0
  · rw [if_pos h0, h0, beq_self_eq_true, Bool.true_and]
    by_cases h1 : x.f1 = y.f1
    · rw [if_pos h1, h1, beq_self_eq_true, Bool.true_and]
    · rw [if_neg h1, beq_eq_false_iff_ne.2 (fun e => h1 e.symm), Bool.false_and, if_neg (by simp)]
  · rw [if_neg h0, beq_eq_false_iff_ne.2 (fun e => h0 e.symm), Bool.false_and, Bool.false_and, if_neg (by simp)]
def sumN (q : List Int) : Nat := (q.map Int.toNat).sum
theorem sum_joined_le (keep gone : Int) (h : keep < gone) : ∀ q : List Int, sumN (joinedBy q keep gone) ≤ sumN q := by
  intro q
  induction q with
  | nil => exact Nat.le_refl _
  | cons x xs ih =>
    unfold sumN joinedBy at *
    simp only [List.map_cons, List.sum_cons]
    split <;> omega
theorem sum_joined (keep gone : Int) (h0 : 0 ≤ keep) (h : keep < gone) : ∀ q : List Int, gone ∈ q → sumN (joinedBy q keep gone) < sumN q := by
  intro q
  induction q with
  | nil => intro hg; exact absurd hg (by simp)
  | cons x xs ih =>
    intro hg
    have hle := sum_joined_le keep gone h xs
    unfold sumN joinedBy at *
    simp only [List.map_cons, List.sum_cons]
    by_cases e : x = gone
    · rw [if_pos e]; omega
    · rw [if_neg e]
      have := ih ((List.mem_cons.1 hg).resolve_left (fun e2 => e e2.symm))
      omega
theorem join_less (q : List Int) (i j : Nat) (hi : i < q.length) (hj : j < q.length) (h0 : ∀ x ∈ q, 0 ≤ x) (hne : ¬ rd q (i : Int) = rd q (j : Int)) : sumN (joinOf q (i : Int) (j : Int)) + 1 ≤ sumN q ∧ ∀ x ∈ joinOf q (i : Int) (j : Int), 0 ≤ x := by
  have mi : rd q (i : Int) ∈ q := by rw [rd_nat, getD_lt _ _ hi]; exact List.getElem_mem hi
  have mj : rd q (j : Int) ∈ q := by rw [rd_nat, getD_lt _ _ hj]; exact List.getElem_mem hj
  unfold joinOf
  generalize rd q (i : Int) = a at *
  generalize rd q (j : Int) = b at *
  have ha := h0 a mi
  have hb := h0 b mj
  have h1 : 0 ≤ mn a b := by unfold mn; split <;> omega
  have h2 : mn a b < mx a b := by unfold mn mx; split <;> split <;> omega
  have h3 : mx a b ∈ q := by unfold mx; split <;> assumption
  refine ⟨sum_joined _ _ h1 h2 q h3, fun x hx => ?_⟩
  unfold joinedBy at hx
  obtain ⟨y, hy, rfl⟩ := List.mem_map.1 hx
  have := h0 y hy
  split <;> omega
theorem joinOf_len (q : List Int) (a b : Int) : (joinOf q a b).length = q.length := by simp [joinOf, joinedBy]
/-- What bounds the rounds that are still to come. -/
def pot (q : List Int) (ag : Bool) : Nat := sumN q * 16000 + (if ag = true then 16000 else 0)
theorem pot_again (q : List Int) : pot q true = pot q false + 16000 := by unfold pot; rw [if_pos rfl, if_neg (by simp)]
theorem pot_join {q q' : List Int} (h : sumN q' + 1 ≤ sumN q) (ag : Bool) : pot q' true ≤ pot q ag := by
  unfold pot
  rw [if_pos rfl]
  have := Nat.mul_le_mul_right 16000 h
  rw [Nat.add_mul, Nat.one_mul] at this
  exact Nat.le_trans this (Nat.le_add_right _ _)
/-- The program's closing and the reference's come to the same parts. -/
theorem closing_run (n : List S114) (hn : n.length ≤ 120) (hkids : ∀ i, i < n.length → (n.getD i z114).f2.length ≤ 3 ∧ ∀ c ∈ (n.getD i z114).f2, 0 ≤ c ∧ c < (n.length : Int)) (N : Nat) :
    (∀ (q : List Int) (ag : Bool), q.length = n.length → (∀ x ∈ q, 0 ≤ x) → pot q ag + 1 ≤ N → ∃ r : List Int, r.length = n.length ∧ ∀ k, N + 1000 ≤ k → spec_l6Closed.l0 k n q ag = some r ∧ cl0 k n q ag = some r) ∧
    (∀ (q : List Int) (ag : Bool) (j : Nat), q.length = n.length → (∀ x ∈ q, 0 ≤ x) → j ≤ n.length → pot q ag + (n.length - j) * 125 + 2 ≤ N → ∃ r : List Int, r.length = n.length ∧ ∀ k, N + 1000 ≤ k → spec_l6Closed.l1 k n q ag n (n.length : Int) (j : Int) = some r ∧ cl1 k n q ag j = some r) ∧
    (∀ (q : List Int) (ag : Bool) (j i : Nat), q.length = n.length → (∀ x ∈ q, 0 ≤ x) → j < n.length → i ≤ j → pot q ag + (n.length - j) * 125 + 1 ≤ N + i → ∃ r : List Int, r.length = n.length ∧ ∀ k, N + 1000 ≤ k → spec_l6Closed.l2 k n q ag (j : Int) (i : Int) n (n.length : Int) (j : Int) (n.getD j z114).f0 (n.getD j z114).f1 (n.getD j z114).f2 = some r ∧ cl2 k n q ag j i = some r) := by
  induction N with
  | zero => exact ⟨fun q ag _ _ h => by omega, fun q ag j _ _ _ h => by omega, fun q ag j i _ _ hj hi h => by omega⟩
  | succ N ih =>
    obtain ⟨ih0, ih1, ih2⟩ := ih
    refine ⟨?_, ?_, ?_⟩
    · intro q ag hl h0 hN
      cases ag with
      | false =>
        refine ⟨q, hl, fun k hk => ?_⟩
        obtain ⟨k, rfl⟩ : ∃ m, k = m + 1 := ⟨k - 1, by omega⟩
        simp only [spec_l6Closed.l0, cl0]
        exact ⟨rfl, rfl⟩
      | true =>
        have hpa := pot_again q
        obtain ⟨r, hr, h⟩ := ih1 q false 0 hl h0 (Nat.zero_le _) (by omega)
        refine ⟨r, hr, fun k hk => ?_⟩
        obtain ⟨k, rfl⟩ : ∃ m, k = m + 1 := ⟨k - 1, by omega⟩
        simp only [spec_l6Closed.l0, cl0, if_true]
        exact h k (by omega)
    · intro q ag j hl h0 hj hN
      by_cases c : j < n.length
      · obtain ⟨r, hr, h⟩ := ih2 q ag j 0 hl h0 c (Nat.zero_le _) (by omega)
        refine ⟨r, hr, fun k hk => ?_⟩
        obtain ⟨k, rfl⟩ : ∃ m, k = m + 1 := ⟨k - 1, by omega⟩
        have c1 : (j : Int) < (n.length : Int) := by omega
        have c0 : (0 : Int) ≤ (j : Int) := by omega
        simp only [spec_l6Closed.l1, cl1, rdE_getD, if_pos c1, if_pos c0, if_pos c]
        exact h k (by omega)
      · obtain ⟨r, hr, h⟩ := ih0 q ag hl h0 (by omega)
        refine ⟨r, hr, fun k hk => ?_⟩
        obtain ⟨k, rfl⟩ : ∃ m, k = m + 1 := ⟨k - 1, by omega⟩
        have c1 : ¬ (j : Int) < (n.length : Int) := by omega
        simp only [spec_l6Closed.l1, cl1, if_neg c1, if_neg c]
        exact h k (by omega)
    · intro q ag j i hl h0 hj hi hN
      by_cases c : i < j
      · have e1 : wrap64 ((i : Int) + 1) = ((i + 1 : Nat) : Int) := by unfold wrap64; omega
        have kx := hkids i (by omega)
        have ky := hkids j hj
        have d1 : (i : Int) < (j : Int) := by omega
        have d2 : (0 : Int) ≤ (i : Int) := by omega
        have d3 : (i : Int) < (n.length : Int) := by omega
        have d4 : (i : Int) < (q.length : Int) := by omega
        have d5 : (0 : Int) ≤ (j : Int) := by omega
        have d6 : (j : Int) < (q.length : Int) := by omega
        by_cases hne : rd q (i : Int) = rd q (j : Int)
        · obtain ⟨r, hr, h⟩ := ih2 q ag j (i + 1) hl h0 hj (by omega) (by omega)
          refine ⟨r, hr, fun k hk => ?_⟩
          obtain ⟨k, rfl⟩ : ∃ m, k = m + 1 := ⟨k - 1, by omega⟩
          simp only [spec_l6Closed.l2, cl2]
          rw [if_pos d1, if_pos d2, if_pos d3, if_pos d4, if_pos d5, if_pos d6, if_pos hne, if_pos c, if_neg (fun h => h.1 hne), e1]
          exact h k (by omega)
        · cases hcb : congB (n.getD j z114) (n.getD i z114) q with
          | false =>
            obtain ⟨r, hr, h⟩ := ih2 q ag j (i + 1) hl h0 hj (by omega) (by omega)
            refine ⟨r, hr, fun k hk => ?_⟩
            obtain ⟨k, rfl⟩ : ∃ m, k = m + 1 := ⟨k - 1, by omega⟩
            simp only [spec_l6Closed.l2, cl2, rdE_getD]
            rw [if_pos d1, if_pos d2, if_pos d3, if_pos d4, if_pos d5, if_pos d6, if_neg hne, specAlikeK _ _ q (by rw [hl]; exact kx) (by rw [hl]; exact ky) k (by omega), hcb, if_neg (by simp), if_pos c, if_neg (fun h => by simp at h), e1]
            exact h k (by omega)
          | true =>
            obtain ⟨hs, hp0⟩ := join_less q i j (by omega) (by omega) h0 hne
            obtain ⟨r, hr, h⟩ := ih2 (joinOf q (i : Int) (j : Int)) true j (i + 1) (by rw [joinOf_len, hl]) hp0 hj (by omega) (by have := pot_join hs ag; omega)
            refine ⟨r, hr, fun k hk => ?_⟩
            obtain ⟨k, rfl⟩ : ∃ m, k = m + 1 := ⟨k - 1, by omega⟩
            simp only [spec_l6Closed.l2, cl2, rdE_getD]
            rw [if_pos d1, if_pos d2, if_pos d3, if_pos d4, if_pos d5, if_pos d6, if_neg hne, specAlikeK _ _ q (by rw [hl]; exact kx) (by rw [hl]; exact ky) k (by omega), hcb, if_pos rfl, if_pos c, if_pos ⟨hne, rfl⟩, spec_l5Join_f q (by omega) _ _ ⟨d2, d4⟩ ⟨d5, d6⟩ k (by omega), impl_joinIn_f q (by omega) _ _ ⟨d2, d4⟩ ⟨d5, d6⟩ k (by omega), e1, Option.bind_some, Option.bind_some, if_pos (joinOf_len q _ _)]
            exact h k (by omega)
      · obtain ⟨r, hr, h⟩ := ih1 q ag (j + 1) hl h0 (by omega) (by omega)
        refine ⟨r, hr, fun k hk => ?_⟩
        obtain ⟨k, rfl⟩ : ∃ m, k = m + 1 := ⟨k - 1, by omega⟩
        have e1 : wrap64 ((j : Int) + 1) = ((j + 1 : Nat) : Int) := by unfold wrap64; omega
        have d1 : ¬ (i : Int) < (j : Int) := by omega
        simp only [spec_l6Closed.l2, cl2]
        rw [if_neg d1, if_neg c, e1]
        exact h k (by omega)
theorem sum_le (m : Nat) : ∀ q : List Int, (∀ x ∈ q, x ≤ (m : Int)) → sumN q ≤ q.length * m := by
  intro q
  induction q with
  | nil => intro _; exact Nat.zero_le _
  | cons x xs ih =>
    intro h
    have h1 := ih (fun y hy => h y (List.mem_cons_of_mem _ hy))
    have h2 := h x (List.mem_cons_self)
    unfold sumN at *
    simp only [List.map_cons, List.sum_cons, List.length_cons, Nat.succ_mul]
    omega

theorem closed_key (n : List S114) (p : List Int) (hn : n.length ≤ 1048576) (hin : ∀ x ∈ n, x.f2.length ≤ 1048576) (hp : p.length ≤ 1048576) (k : Nat) (hk : 1000000000 < k) : ∃ r : List Int × Bool, r.1.length ≤ 1048576 ∧ spec_Closed.f k n p = some r ∧ impl_Closed.f k n p = some r := by
  obtain ⟨k, rfl⟩ : ∃ m, k = m + 1 := ⟨k - 1, by omega⟩
  have no : impl_Closed.j0 (k + 1) n p true = some ([], false) := by simp only [impl_Closed.j0]; rfl
  unfold spec_Closed.f impl_Closed.f
  rw [l6Nodes_f n hn hin (k + 1) (by omega), looseOK_f n hn (k + 1) (by omega), spec_GoodParts_f p (k + 1) (by omega), impl_GoodParts_f p (by omega) (k + 1) (by omega)]
  simp only [Option.bind_some]
  cases hlo : loose n with
  | false => exact ⟨([], false), by simp, by simp, by simp [no]⟩
  | true =>
    cases hok : okParts p with
    | false =>
      refine ⟨([], false), by simp, ?_, by simp [no]⟩
      by_cases e : (p.length : Int) = (n.length : Int)
      · simp [e]
      · simp [e]
    | true =>
      by_cases e : (p.length : Int) = (n.length : Int)
      · have hl := loose_len hlo
        have hg := (of_decide_eq_true hok).1
        have hkids : ∀ i, i < n.length → (n.getD i z114).f2.length ≤ 3 ∧ ∀ c ∈ (n.getD i z114).f2, 0 ≤ c ∧ c < (n.length : Int) := fun i hi => by
          obtain ⟨h1, h2⟩ := enOK_kids (loose_at hlo i hi)
          exact ⟨h1, fun c hc => by have := h2 c hc; omega⟩
        have hx : ∀ x ∈ p, 0 ≤ x ∧ x ≤ ((200 : Nat) : Int) := fun x hx => by
          obtain ⟨i, hi, rfl⟩ := List.getElem_of_mem hx
          have := hg i hi
          unfold goodAt at this
          rw [getD_lt _ _ hi] at this
          omega
        have hs := sum_le 200 p (fun x h => (hx x h).2)
        have hpn : p.length = n.length := by omega
        have hpot : pot p true ≤ 400000000 := by
          unfold pot
          rw [if_pos rfl]
          generalize sumN p = s at hs ⊢
          omega
        obtain ⟨r, hr, hrun⟩ := (closing_run n hl hkids (pot p true + 1)).1 p true hpn (fun x h => (hx x h).1) (Nat.le_refl _)
        have h1 := hrun (k + 1) (by omega)
        have h2 := hrun k (by omega)
        have hkd : kidsOK n n.length = true := by
          unfold kidsOK
          rw [List.all_eq_true]
          intro x hx
          obtain ⟨i, hi, rfl⟩ := List.getElem_of_mem hx
          rw [List.all_eq_true]
          intro c hc
          have := (hkids i hi).2 c (by rw [List.getD_eq_getElem?_getD, List.getElem?_eq_getElem hi]; exact hc)
          exact decide_eq_true this
        have hcl : impl_closing.f k n p = some r := by
          unfold impl_closing.f
          rw [if_pos ⟨hpn, hn, hkd⟩]
          exact h2.2
        have hsp : spec_l6Closed.f (k + 1) n p = some r := by
          unfold spec_l6Closed.f
          rw [own_same p (by omega), Option.bind_some]
          exact h1.1
        have hne : ((p.length : Int) != (n.length : Int)) = false := by rw [bne_eq_false_iff_eq]; exact e
        have hcn : slices_Clone_int.f p = some p := by unfold slices_Clone_int.f; rw [if_pos (by omega)]
        refine ⟨(r, true), by simp only; omega, ?_, ?_⟩
        · simp only [if_true, if_pos e, hsp, Option.bind_some]
        · simp only [if_true, hne, impl_Closed.j0, hcn, hcl, Option.bind_some, Bool.false_eq_true, if_false]
      · have hne : ((p.length : Int) != (n.length : Int)) = true := by rw [bne_iff_ne]; exact e
        refine ⟨([], false), by simp, ?_, ?_⟩
        · simp only [if_true, if_neg e]
        · simp only [if_true, hne, no]
theorem FnExactClosed : RdFnExactClosed.Pure := by
  intro n p hn1 hn _ hp
  by_cases hpl : 1048576 < (p.length : Int)
  · exact ⟨1, by unfold laws_FnExactClosed.f; rw [if_pos hpl]⟩
  refine ⟨1000000010, ?_⟩
  unfold laws_FnExactClosed.f
  rw [if_neg hpl]
  obtain ⟨t, ht, hh⟩ := szE_f n 1048576 (by omega) (by omega) hn1 (fun x hx => (hn.2 x hx).2.2.1) 1000000010 (by omega)
  rw [ht, Option.bind_some]
  by_cases h : t < 0
  · rw [if_pos h]
  · obtain ⟨_, _, h1, h2, h4⟩ := hh.resolve_left h
    have hpl' : p.length ≤ 1048576 := by omega
    have hlen : (n.map cvE).length = n.length := List.length_map _
    have hW := enW_cv n h1 h4
    have hto := toE_f n h1 h2 1000000010 (by omega)
    have hti := laws_toIntS_f p hpl' 1000000010 (by omega)
    have hin := cvE_len n h2
    obtain ⟨r, hr, hs, hi⟩ := closed_key (n.map cvE) p (by omega) hin hpl' 1000000010 (by omega)
    have hq := eqE_f (n.map cvE) (by omega) hin 1000000010 (by omega)
    have he := laws_eqIntS_f r.1 (by omega) 1000000010 (by omega)
    have he2 := laws_eqIntS_f p (by omega) 1000000010 (by omega)
    have hm := laws_markIntS_f r.1 (by omega) 1000000010 (by omega)
    have hd := laws_heldIntS_f r.1.length (by omega) 1000000010 (by omega)
    have hmx := markI_run p.length (by omega) (1 + enW (n.map cvE)) (by omega) p.length 1000000010 0 p (by omega) rfl (fun j hj => by omega) (by omega)
    have hmx' : laws_markIntS.f 1000000010 p ((1 + enW (n.map cvE) : Nat) : Int) = some (((1 + enW (n.map cvE) + p.length : Nat) : Int), mkI (1 + enW (n.map cvE)) p.length) := hmx
    generalize n.map cvE = L at *
    simp only [if_neg h, hto, hti, hs, hi, hq, he, he2, hmx', hm, hd, Option.bind_some]
    exact if_pos ⟨⟨trivial, trivial, trivial, trivial⟩, by omega, by omega, by omega, by omega, trivial⟩

end Go.Proofs.Ytakblgcheakbnaa.Pure
