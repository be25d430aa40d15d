/- The program's JoinParts and the reference's answer alike at every list and two numbers; no condition. -/
import Derived.Test.YtcckpcgmpmlioaaPFnExactJoinPartsx3
import Derived.Test.YtcckpcgmpmlioaaWSized
set_option linter.unusedVariables false
set_option linter.unusedSimpArgs false
namespace Go.Proofs.Ytcckpcgmpmlioaa.Pure
open Go.RowKit Go.Proofs.Ytcckpcgmpmlioaa.PFnExactJoinParts Go.Proofs.YtcckpcgmpmlioaaW.PrintWords Go.Proofs.YtcckpcgmpmlioaaW.PrintLast Go.Proofs.YtcckpcgmpmlioaaW.PrintMore

theorem w64 (x : Int) (h0 : -9223372036854775808 ≤ x) (h1 : x ≤ 9223372036854775807) : wrap64 x = x := by unfold wrap64; omega
theorem w64s (i : Nat) (h : i ≤ 140737488355328) : wrap64 ((i : Int) + 1) = ((i + 1 : Nat) : Int) := by rw [w64 _ (by omega) (by omega)]; omega
theorem rd_nat (l : List Int) (i : Nat) : rd l (i : Int) = l.getD i 0 := by simp [rd]
theorem getD_lt (l : List Int) (i : Nat) (h : i < l.length) : l.getD i 0 = l[i] := by simp [List.getD_eq_getElem?_getD, h]

theorem laws_toIntS_run (x0 : List Int) (hn : x0.length ≤ 140737488351232) (d : Nat) : ∀ (k i : Nat) (x3 : List Int), i + d = x0.length → x3.length = x0.length → (∀ j, j < i → x3[j]? = x0[j]?) → d < k →
    laws_toIntS.l0 k x0 x3 (i : Int) = some x0 := by
  induction d with
  | zero =>
    intro k i x3 hi hl hj hk
    obtain ⟨k, rfl⟩ : ∃ m, k = m + 1 := ⟨k - 1, by omega⟩
    simp only [laws_toIntS.l0]
    rw [if_neg (by omega)]
    congr 1
    apply List.ext_getElem?
    intro j
    by_cases h : j < i
    · exact hj j h
    · rw [List.getElem?_eq_none (by omega), List.getElem?_eq_none (by omega)]
  | succ d ih =>
    intro k i x3 hi hl hj hk
    obtain ⟨k, rfl⟩ : ∃ m, k = m + 1 := ⟨k - 1, by omega⟩
    simp only [laws_toIntS.l0]
    rw [if_pos (by omega), if_pos (by omega), if_pos (by omega), w64s i (by omega)]
    refine ih k (i + 1) _ (by omega) (by simpa using hl) ?_ (by omega)
    intro j hji
    rw [Int.toNat_natCast, rd_nat, List.getElem?_set]
    by_cases h : i = j
    · subst h
      rw [if_pos rfl, if_pos (by omega), getD_lt _ _ (by omega), List.getElem?_eq_getElem (by omega)]
    · rw [if_neg h]
      exact hj j (by omega)
theorem laws_toIntS_f (l : List Int) (hn : l.length ≤ 1048576) (k : Nat) (hk : l.length < k) : laws_toIntS.f k l = some l := by
  unfold laws_toIntS.f
  rw [if_pos (by omega), if_pos (by omega)]
  exact laws_toIntS_run l (by omega) l.length k 0 _ (by omega) (by simp) (fun j hj => by omega) hk

theorem laws_eqIntS_run (x0 : List Int) (hn : x0.length ≤ 140737488351232) (d : Nat) : ∀ (k i : Nat), i + d = x0.length → d < k → laws_eqIntS.l0 k x0 x0 (i : Int) = some true := by
  induction d with
  | zero =>
    intro k i hi hk
    obtain ⟨k, rfl⟩ : ∃ m, k = m + 1 := ⟨k - 1, by omega⟩
    simp only [laws_eqIntS.l0]
    rw [if_neg (by omega)]
  | succ d ih =>
    intro k i hi hk
    obtain ⟨k, rfl⟩ : ∃ m, k = m + 1 := ⟨k - 1, by omega⟩
    simp only [laws_eqIntS.l0]
    rw [if_pos (by omega), if_pos (by omega), if_pos (by omega), if_pos trivial, w64s i (by omega)]
    exact ih k (i + 1) (by omega) (by omega)
theorem laws_eqIntS_f (l : List Int) (hn : l.length ≤ 140737488351232) (k : Nat) (hk : l.length < k) : laws_eqIntS.f k l l = some true := by
  unfold laws_eqIntS.f
  rw [if_pos rfl]
  exact laws_eqIntS_run l hn l.length k 0 (by omega) hk

/-- Parts: each number's is at most itself, and its own. -/
def goodAt (l : List Int) (i : Nat) : Prop := 0 ≤ l.getD i 0 ∧ l.getD i 0 ≤ (i : Int) ∧ l.getD (l.getD i 0).toNat 0 = l.getD i 0
instance (l : List Int) (i : Nat) : Decidable (goodAt l i) := by unfold goodAt; infer_instance
def okParts (l : List Int) : Bool := decide ((∀ i : Nat, i < l.length → goodAt l i) ∧ l.length ≤ 200)
theorem rd_int (l : List Int) (x : Int) : rd l x = l.getD x.toNat 0 := rfl
theorem spec_GoodParts_run (x0 : List Int) (hn : x0.length ≤ 200) (d : Nat) : ∀ (k i : Nat), i + d = x0.length → (∀ j : Nat, j < i → goodAt x0 j) → d < k →
    spec_GoodParts.l0 k x0 x0 (x0.length : Int) (i : Int) = some (okParts x0) := by
  induction d with
  | zero =>
    intro k i hi hj hk
    obtain ⟨k, rfl⟩ : ∃ m, k = m + 1 := ⟨k - 1, by omega⟩
    simp only [spec_GoodParts.l0]
    rw [if_neg (by omega)]
    congr 1
    symm
    exact decide_eq_true ⟨fun j hj' => hj j (by omega), hn⟩
  | succ d ih =>
    intro k i hi hj hk
    obtain ⟨k, rfl⟩ : ∃ m, k = m + 1 := ⟨k - 1, by omega⟩
    simp only [spec_GoodParts.l0]
    rw [if_pos (by omega), if_pos (by omega), if_pos (by omega), rd_nat]
    unfold spec_l1In.f
    by_cases h0 : x0.getD i 0 ≥ 0
    · rw [if_pos h0]
      by_cases h1 : x0.getD i 0 ≤ (i : Int)
      · rw [decide_eq_true h1, Option.bind_some, if_pos rfl, if_pos (by omega), if_pos (by omega), w64s i (by omega), rd_int]
        by_cases h2 : x0.getD (x0.getD i 0).toNat 0 = x0.getD i 0
        · rw [if_pos h2]
          exact ih k (i + 1) (by omega) (fun j hj' => by
            by_cases e : j = i
            · subst e; exact ⟨h0, h1, h2⟩
            · exact hj j (by omega)) (by omega)
        · rw [if_neg h2]
          congr 1
          symm
          exact decide_eq_false (fun h => h2 (h.1 i (by omega)).2.2)
      · rw [decide_eq_false h1, Option.bind_some, if_neg (by simp)]
        congr 1
        symm
        exact decide_eq_false (fun h => h1 (h.1 i (by omega)).2.1)
    · rw [if_neg h0, Option.bind_some, if_neg (by simp)]
      congr 1
      symm
      exact decide_eq_false (fun h => h0 (h.1 i (by omega)).1)
theorem spec_GoodParts_f (l : List Int) (k : Nat) (hk : l.length < k) : spec_GoodParts.f k l = some (okParts l) := by
  unfold spec_GoodParts.f
  by_cases h : (l.length : Int) > 200
  · rw [if_pos h]
    congr 1
    symm
    exact decide_eq_false (fun h' => by have := h'.2; omega)
  · rw [if_neg h]
    exact spec_GoodParts_run l (by omega) l.length k 0 (by omega) (fun j hj => by omega) hk
/-- Parents, as the program asks first. -/
def okPar (l : List Int) : Bool := decide ((∀ i : Nat, i < l.length → 0 ≤ l.getD i 0 ∧ l.getD i 0 ≤ (i : Int)) ∧ l.length ≤ 200)
theorem impl_parentsOK_run (x0 : List Int) (hn : x0.length ≤ 140737488351232) (d : Nat) : ∀ (k i : Nat), i + d = x0.length → (∀ j : Nat, j < i → 0 ≤ x0.getD j 0 ∧ x0.getD j 0 ≤ (j : Int)) → d < k →
    impl_parentsOK.l0 k x0 x0 (x0.length : Int) (i : Int) = some (okPar x0) := by
  induction d with
  | zero =>
    intro k i hi hj hk
    obtain ⟨k, rfl⟩ : ∃ m, k = m + 1 := ⟨k - 1, by omega⟩
    simp only [impl_parentsOK.l0]
    rw [if_neg (by omega)]
    congr 1
    unfold okPar
    rw [decide_eq_decide]
    constructor
    · intro h; exact ⟨fun j hj' => hj j (by omega), by omega⟩
    · intro h; have := h.2; omega
  | succ d ih =>
    intro k i hi hj hk
    obtain ⟨k, rfl⟩ : ∃ m, k = m + 1 := ⟨k - 1, by omega⟩
    simp only [impl_parentsOK.l0]
    rw [if_pos (by omega), if_pos (by omega), if_pos (by omega), rd_nat]
    unfold impl_within.f
    by_cases h0 : x0.getD i 0 ≥ 0
    · rw [if_pos h0]
      by_cases h1 : x0.getD i 0 ≤ (i : Int)
      · rw [decide_eq_true h1, Option.bind_some, if_pos rfl, w64s i (by omega)]
        exact ih k (i + 1) (by omega) (fun j hj' => by
          by_cases e : j = i
          · subst e; exact ⟨h0, h1⟩
          · exact hj j (by omega)) (by omega)
      · rw [decide_eq_false h1, Option.bind_some, if_neg (by simp)]
        congr 1
        symm
        exact decide_eq_false (fun h => h1 (h.1 i (by omega)).2)
    · rw [if_neg h0, Option.bind_some, if_neg (by simp)]
      congr 1
      symm
      exact decide_eq_false (fun h => h0 (h.1 i (by omega)).1)
theorem impl_parentsOK_f (l : List Int) (hn : l.length ≤ 140737488351232) (k : Nat) (hk : l.length < k) : impl_parentsOK.f k l = some (okPar l) :=
  impl_parentsOK_run l hn l.length k 0 (by omega) (fun j hj => by omega) hk
theorem impl_GoodParts_f (l : List Int) (hn : l.length ≤ 140737488351232) (k : Nat) (hk : l.length < k) : impl_GoodParts.f k l = some (okParts l) := by
  unfold impl_GoodParts.f
  rw [impl_parentsOK_f l hn k hk, Option.bind_some]
  cases hp : okPar l with
  | false =>
    rw [if_neg (by simp)]
    congr 1
    symm
    exact decide_eq_false (fun h => by
      have : okPar l = true := decide_eq_true ⟨fun i hi => ⟨(h.1 i hi).1, (h.1 i hi).2.1⟩, h.2⟩
      rw [hp] at this; cases this)
  | true =>
    have hp' := of_decide_eq_true hp
    rw [if_pos rfl]
    congr 1
    rw [Bool.eq_iff_iff]
    simp only [Bool.not_eq_true', List.any_eq_false, okParts, decide_eq_true_eq]
    constructor
    · intro h
      refine ⟨fun i hi => ⟨(hp'.1 i hi).1, (hp'.1 i hi).2, ?_⟩, hp'.2⟩
      have := h l[i] (List.getElem_mem hi)
      rw [getD_lt _ _ hi]
      simpa [rd_int] using this
    · intro h x hx
      obtain ⟨i, hi, rfl⟩ := List.getElem_of_mem hx
      have := (h.1 i hi).2.2
      rw [getD_lt _ _ hi] at this
      simpa [rd_int] using this

/-- The parts of which one's name is another's now. -/
def joinedBy (l : List Int) (keep gone : Int) : List Int := l.map fun x => if x = gone then keep else x
theorem join_run (l : List Int) (hn : l.length ≤ 1048576) (keep gone : Int) (d : Nat) : ∀ (i : Nat) (x : List Int), i + d = l.length → x.length = l.length → (∀ j : Nat, j < i → x[j]? = (joinedBy l keep gone)[j]?) → (∀ j : Nat, i ≤ j → x[j]? = l[j]?) → ∀ k, d < k →
    spec_l5Join.l0 k keep gone x l (l.length : Int) (i : Int) = some (joinedBy l keep gone) ∧ impl_joinIn.l0 k x keep gone (l.length : Int) (i : Int) = some ((keep != gone), joinedBy l keep gone) := by
  induction d with
  | zero =>
    intro i x hi hx hj hj2 k hk
    obtain ⟨k, rfl⟩ : ∃ m, k = m + 1 := ⟨k - 1, by omega⟩
    have : x = joinedBy l keep gone := by
      apply List.ext_getElem?
      intro j
      by_cases h : j < i
      · exact hj j h
      · rw [List.getElem?_eq_none (by omega), List.getElem?_eq_none (by simp [joinedBy]; omega)]
    simp only [spec_l5Join.l0, impl_joinIn.l0]
    rw [if_neg (by omega), if_neg (by omega), this]
    exact ⟨rfl, rfl⟩
  | succ d ih =>
    intro i x hi hx hj hj2 k hk
    obtain ⟨k, rfl⟩ : ∃ m, k = m + 1 := ⟨k - 1, by omega⟩
    have hxi : rd x (i : Int) = rd l (i : Int) := by
      rw [rd_nat, rd_nat, List.getD_eq_getElem?_getD, List.getD_eq_getElem?_getD, hj2 i (Nat.le_refl _)]
    have hli : rd l (i : Int) = l[i]'(by omega) := by rw [rd_nat, getD_lt _ _ (by omega)]
    have hM : (joinedBy l keep gone)[i]? = some (if rd l (i : Int) = gone then keep else rd l (i : Int)) := by
      rw [hli]; simp [joinedBy, List.getElem?_eq_getElem (show i < l.length by omega)]
    simp only [spec_l5Join.l0, impl_joinIn.l0, hxi]
    have c1 : (i : Int) < (l.length : Int) := by omega
    have c2 : (i : Int) < (x.length : Int) := by omega
    have c3 : 0 ≤ (i : Int) := by omega
    simp only [if_pos c1, if_pos c2, if_pos c3, w64s i (by omega)]
    by_cases e : rd l (i : Int) = gone
    · simp only [if_pos e]
      refine ih (i + 1) _ (by omega) (by simpa using hx) ?_ ?_ k (by omega)
      · intro j hji
        rw [Int.toNat_natCast, List.getElem?_set]
        by_cases h : i = j
        · subst h
          rw [if_pos rfl, if_pos (by omega), hM, if_pos e]
        · rw [if_neg h]; exact hj j (by omega)
      · intro j hji
        rw [Int.toNat_natCast, List.getElem?_set, if_neg (by omega)]
        exact hj2 j (by omega)
    · simp only [if_neg e]
      refine ih (i + 1) x (by omega) hx ?_ (fun j hji => hj2 j (by omega)) k (by omega)
      intro j hji
      by_cases h : i = j
      · subst h
        rw [hM, if_neg e, hj2 i (Nat.le_refl _), List.getElem?_eq_getElem (by omega), hli]
      · exact hj j (by omega)
theorem most_mx (x y : Int) : spec_l1Most.f x y = some (mx x y) := by
  unfold spec_l1Most.f mx
  by_cases c : x > y
  · rw [if_pos c, if_neg (by omega)]
  · rw [if_neg c]
    by_cases c2 : x < y
    · rw [if_pos c2]
    · rw [if_neg c2, show x = y by omega]
theorem least_mn (x y : Int) : spec_l1Least.f x y = some (mn x y) := by
  unfold spec_l1Least.f mn
  by_cases c : x < y
  · rw [if_pos c, if_neg (by omega)]
  · rw [if_neg c]
    by_cases c2 : y < x
    · rw [if_pos c2]
    · rw [if_neg c2, show x = y by omega]
theorem own_same (l : List Int) (hn : l.length ≤ 1048576) : spec_l1Own.f l = some l := by
  unfold spec_l1Own.f
  rw [Option.bind_some, if_pos (by simp only [List.length_nil]; omega), List.nil_append]
/-- The join of two numbers' parts. -/
def joinOf (l : List Int) (a b : Int) : List Int := joinedBy l (mn (rd l a) (rd l b)) (mx (rd l a) (rd l b))
theorem spec_l5Join_f (l : List Int) (hn : l.length ≤ 1048576) (a b : Int) (ha : 0 ≤ a ∧ a < (l.length : Int)) (hb : 0 ≤ b ∧ b < (l.length : Int)) (k : Nat) (hk : l.length < k) : spec_l5Join.f k l a b = some (joinOf l a b) := by
  unfold spec_l5Join.f
  rw [if_pos ha.1, if_pos ha.2, if_pos hb.1, if_pos hb.2]
  simp only [least_mn, most_mx, own_same l hn, Option.bind_some]
  exact (join_run l hn _ _ l.length 0 l (by omega) rfl (fun j hj => by omega) (fun _ _ => rfl) k hk).1
theorem impl_joinIn_f (l : List Int) (hn : l.length ≤ 1048576) (a b : Int) (ha : 0 ≤ a ∧ a < (l.length : Int)) (hb : 0 ≤ b ∧ b < (l.length : Int)) (k : Nat) (hk : l.length < k) : impl_joinIn.f k l a b = some ((mn (rd l a) (rd l b) != mx (rd l a) (rd l b)), joinOf l a b) := by
  unfold impl_joinIn.f
  rw [if_pos ha.1, if_pos ha.2, if_pos hb.1, if_pos hb.2]
  exact (join_run l hn _ _ l.length 0 l (by omega) rfl (fun j hj => by omega) (fun _ _ => rfl) k hk).2

theorem in_range (a : Int) (n : Nat) (hn : n ≤ 1048576) : spec_l1In.f a 0 (wrap64 ((n : Int) - 1)) = some (decide (0 ≤ a ∧ a < (n : Int))) ∧ impl_within.f a 0 (wrap64 ((n : Int) - 1)) = some (decide (0 ≤ a ∧ a < (n : Int))) := by
  unfold spec_l1In.f impl_within.f
  rw [w64 _ (by omega) (by omega)]
  by_cases h0 : a ≥ 0
  · simp only [if_pos h0]
    have : decide (a ≤ (n : Int) - 1) = decide (0 ≤ a ∧ a < (n : Int)) := by rw [decide_eq_decide]; omega
    rw [this]; exact ⟨rfl, rfl⟩
  · simp only [if_neg h0]
    have : decide (0 ≤ a ∧ a < (n : Int)) = false := decide_eq_false (by omega)
    rw [this]; exact ⟨rfl, rfl⟩

/-- What markIntS writes: numbers from one on. -/
def marked (xs : List Int) (m : Int) : List Int := (List.range xs.length).map fun j : Nat => m + (j : Int)
theorem laws_markIntS_run (n : Nat) (hn : n ≤ 140737488350000) (m0 : Nat) (hm0 : m0 ≤ 1000) (d : Nat) : ∀ (k i : Nat) (x : List Int), i + d = n → x.length = n → (∀ j, j < i → x[j]? = some ((m0 : Int) + (j : Int))) → d < k →
    laws_markIntS.l0 k x (((m0 + i : Nat)) : Int) (i : Int) = some (((m0 + n : Nat) : Int), (List.range n).map fun j : Nat => ((m0 : Int) + (j : Int))) := by
  induction d with
  | zero =>
    intro k i x hi hl hj hk
    obtain ⟨k, rfl⟩ : ∃ m, k = m + 1 := ⟨k - 1, by omega⟩
    simp only [laws_markIntS.l0]
    rw [if_neg (by omega)]
    have e : i = n := by omega
    subst e
    congr 2
    apply List.ext_getElem?
    intro j
    by_cases h : j < i
    · rw [hj j h, List.getElem?_map, List.getElem?_range h]; rfl
    · rw [List.getElem?_eq_none (by omega), List.getElem?_eq_none (by simp; omega)]
  | succ d ih =>
    intro k i x hi hl hj hk
    obtain ⟨k, rfl⟩ : ∃ m, k = m + 1 := ⟨k - 1, by omega⟩
    simp only [laws_markIntS.l0]
    rw [if_pos (by omega), if_pos (by omega), w64s i (by omega), w64s (m0 + i) (by omega)]
    refine ih k (i + 1) _ (by omega) (by simpa using hl) ?_ (by omega)
    intro j hji
    rw [Int.toNat_natCast, List.getElem?_set]
    by_cases h : i = j
    · subst h
      rw [if_pos rfl, if_pos (by omega)]
      congr 1
    · rw [if_neg h]
      exact hj j (by omega)
theorem laws_heldIntS_run (n : Nat) (hn : n ≤ 140737488350000) (m0 : Nat) (hm0 : m0 ≤ 1000) (d : Nat) : ∀ (k i : Nat), i + d = n → d < k →
    laws_heldIntS.l0 k ((List.range n).map fun j : Nat => ((m0 : Int) + (j : Int))) (((m0 + i : Nat)) : Int) (i : Int) = some (((m0 + n : Nat) : Int)) := by
  induction d with
  | zero =>
    intro k i hi hk
    obtain ⟨k, rfl⟩ : ∃ m, k = m + 1 := ⟨k - 1, by omega⟩
    simp only [laws_heldIntS.l0]
    rw [if_neg (by simp; omega)]
    congr 2
    omega
  | succ d ih =>
    intro k i hi hk
    obtain ⟨k, rfl⟩ : ∃ m, k = m + 1 := ⟨k - 1, by omega⟩
    simp only [laws_heldIntS.l0]
    have hr : rd ((List.range n).map fun j : Nat => ((m0 : Int) + (j : Int))) (i : Int) = ((m0 + i : Nat) : Int) := by
      rw [rd_nat, getD_lt _ _ (by simp; omega)]
      simp
    rw [if_pos (by simp; omega), if_pos (by omega), hr, if_pos rfl, w64s i (by omega), w64s (m0 + i) (by omega)]
    exact ih k (i + 1) (by omega) (by omega)
theorem laws_markIntS_f (x : List Int) (hn : x.length ≤ 140737488350000) (k : Nat) (hk : x.length < k) : laws_markIntS.f k x 1 = some (((1 + x.length : Nat) : Int), (List.range x.length).map fun j : Nat => ((1 : Nat) : Int) + (j : Int)) :=
  laws_markIntS_run x.length hn 1 (by omega) x.length k 0 x (by omega) rfl (fun j hj => by omega) hk
theorem laws_heldIntS_f (n : Nat) (hn : n ≤ 140737488350000) (k : Nat) (hk : n < k) : laws_heldIntS.f k ((List.range n).map fun j : Nat => ((1 : Nat) : Int) + (j : Int)) 1 = some (((1 + n : Nat) : Int)) :=
  laws_heldIntS_run n hn 1 (by omega) n k 0 (by omega) hk

theorem join_key (l : List Int) (hn : l.length ≤ 1048576) (a b : Int) : ∃ p : List Int × Bool, p.1.length ≤ 200 ∧ ∀ k, l.length + 1 < k → spec_JoinParts.f k l a b = some p ∧ impl_JoinParts.f k l a b = some p := by
  obtain ⟨ia, ja⟩ := in_range a l.length hn
  obtain ⟨ib, jb⟩ := in_range b l.length hn
  have no : ∀ k, l.length + 1 < k → impl_JoinParts.j0 k l a b true = some ([], false) := by
    intro k hk
    obtain ⟨k, rfl⟩ : ∃ m, k = m + 1 := ⟨k - 1, by omega⟩
    simp only [impl_JoinParts.j0]
    rfl
  cases hg : okParts l with
  | false =>
    refine ⟨([], false), by simp, fun k hk => ?_⟩
    unfold spec_JoinParts.f impl_JoinParts.f spec_l5Asked.f
    rw [spec_GoodParts_f l k (by omega), impl_GoodParts_f l (by omega) k (by omega), hg]
    simp only [Option.bind_some, Bool.false_eq_true, if_false]
    exact ⟨trivial, no k hk⟩
  | true =>
    have hl := (of_decide_eq_true hg).2
    by_cases ha : 0 ≤ a ∧ a < (l.length : Int)
    · by_cases hb : 0 ≤ b ∧ b < (l.length : Int)
      · refine ⟨(joinOf l a b, true), by simp [joinOf, joinedBy]; omega, fun k hk => ?_⟩
        obtain ⟨k, rfl⟩ : ∃ m, k = m + 1 := ⟨k - 1, by omega⟩
        unfold spec_JoinParts.f impl_JoinParts.f spec_l5Asked.f
        rw [spec_GoodParts_f l (k + 1) (by omega), impl_GoodParts_f l (by omega) (k + 1) (by omega), hg]
        have e2 : slices_Clone_int.f l = some l := by unfold slices_Clone_int.f; rw [if_pos (by omega)]
        simp only [Option.bind_some, if_true, ia, ja, ib, jb, decide_eq_true ha, decide_eq_true hb, Bool.not_true, impl_JoinParts.j0, Bool.false_eq_true, if_false, e2, spec_l5Join_f l hn a b ha hb (k + 1) (by omega), impl_joinIn_f l hn a b ha hb k (by omega)]
        exact ⟨trivial, trivial⟩
      · refine ⟨([], false), by simp, fun k hk => ?_⟩
        unfold spec_JoinParts.f impl_JoinParts.f spec_l5Asked.f
        rw [spec_GoodParts_f l k (by omega), impl_GoodParts_f l (by omega) k (by omega), hg]
        simp only [Option.bind_some, if_true, ia, ja, ib, jb, decide_eq_true ha, decide_eq_false hb, Bool.not_false, Bool.false_eq_true, if_false]
        exact ⟨trivial, no k hk⟩
    · refine ⟨([], false), by simp, fun k hk => ?_⟩
      unfold spec_JoinParts.f impl_JoinParts.f spec_l5Asked.f
      rw [spec_GoodParts_f l k (by omega), impl_GoodParts_f l (by omega) k (by omega), hg]
      simp only [Option.bind_some, if_true, ia, ja, decide_eq_false ha, Bool.false_eq_true, if_false]
      exact ⟨trivial, no k hk⟩
theorem FnExactJoinParts : laws_FnExactJoinParts.Pure := by
  intro l a b _ _ _ _ _
  by_cases h : (l.length : Int) > 1048576
  · exact ⟨1, by unfold laws_FnExactJoinParts.f; rw [if_pos h]⟩
  · have hn : l.length ≤ 1048576 := by omega
    obtain ⟨⟨P, ok⟩, hP, hk⟩ := join_key l hn a b
    simp only at hP
    obtain ⟨K, hK⟩ : ∃ K, K = l.length + P.length + 3 := ⟨_, rfl⟩
    refine ⟨K + 3, ?_⟩
    unfold laws_FnExactJoinParts.f
    rw [if_neg h]
    have e1 := fun j => laws_toIntS_f l hn (K + j) (by omega)
    have s1 := fun j => (hk (K + j) (by omega)).1
    have s2 := fun j => (hk (K + j) (by omega)).2
    have e4 := fun j => laws_eqIntS_f l (by omega) (K + j) (by omega)
    have e5 := fun j => laws_eqIntS_f P (by omega) (K + j) (by omega)
    have m1 := fun j => laws_markIntS_f l (by omega) (K + j) (by omega)
    have m2 := fun j => laws_markIntS_f P (by omega) (K + j) (by omega)
    have h1 := fun j => laws_heldIntS_f l.length (by omega) (K + j) (by omega)
    have h2 := fun j => laws_heldIntS_f P.length (by omega) (K + j) (by omega)
    have n0 : ∀ n : Nat, ¬ ((n : Int) < 0) := fun n => by omega
    have z0 := e1 0; have z1 := s1 0; have z2 := s2 0; have z3 := e4 0; have z4 := e5 0; have z5 := m1 0; have z6 := m2 0; have z7 := h1 0; have z8 := h2 0
    simp only [Nat.add_zero] at z0 z1 z2 z3 z4 z5 z6 z7 z8
    simp only [e1, s1, s2, e5, Option.bind_some, if_true, bne_self_eq_false]
    simp only [laws_FnExactJoinParts.j0, Bool.false_eq_true, if_false, e1, e4, e5, m1, n0, Option.bind_some, if_true, bne_self_eq_false]
    simp only [laws_FnExactJoinParts.j1, Bool.false_eq_true, if_false, e1, s2, e4, e5, m1, m2, h1, h2, n0, Option.bind_some, if_true, bne_self_eq_false]
    simp only [laws_FnExactJoinParts.j2, Bool.false_eq_true, if_false, z0, z1, z2, z3, z4, z5, z6, z7, z8, n0, Option.bind_some, if_true]

end Go.Proofs.Ytcckpcgmpmlioaa.Pure
namespace Go.Proofs.Ytcckpcgmpmlioaa.PrintWords
/-- The name by which the printed row asks for it. -/
theorem sized_ints {H : Type} {enc : TypeId × Value → H} {P : Program} {W : World} {base : Nat} {spare : Nat → Bool} {held : Bool} {t e : TypeId} {k : IntKind} {a : Option Addr} {len cap : Nat} {d : DataW H} {ps : List MemPlace} {ts : List TypeId} {ds : List (DataW H)} {j : Nat}
    (hsz : (DataW.weightsEach P ts ds).all (· ≤ reachBytes) = true) (ht : ts[j]? = some t) (hd : ds[j]? = some d) (hu : P.underlying t = some (.slice e)) (he : P.underlying e = some (.int k)) (hc : P.cellsOf e = 1) {B : Nat} (hB : P.bytesOf e = B)
    (h : DataW.Trod enc P W base spare held t (.slice a len cap) d ps) : len * B ≤ 140737488351232 := Go.Proofs.YtcckpcgmpmlioaaW.PrintWords.sized_ints hsz ht hd hu he hc hB h
end Go.Proofs.Ytcckpcgmpmlioaa.PrintWords
