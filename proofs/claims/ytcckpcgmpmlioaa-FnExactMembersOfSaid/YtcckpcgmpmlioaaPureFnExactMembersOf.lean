/- The program's MembersOf and the reference's answer alike at every list and number; no condition. -/
import Derived.Test.YtcckpcgmpmlioaaPFnExactMembersOfx3
import Derived.Test.YtcckpcgmpmlioaaWSized
set_option linter.unusedVariables false
set_option linter.unusedSimpArgs false
namespace Go.Proofs.Ytcckpcgmpmlioaa.Pure
open Go.RowKit Go.Proofs.Ytcckpcgmpmlioaa.PFnExactMembersOf Go.Proofs.YtcckpcgmpmlioaaW.PrintWords Go.Proofs.YtcckpcgmpmlioaaW.PrintLast

theorem w64 (x : Int) (h0 : -9223372036854775808 ≤ x) (h1 : x ≤ 9223372036854775807) : wrap64 x = x := by unfold wrap64; omega
theorem w64s (i : Nat) (h : i ≤ 140737488355328) : wrap64 ((i : Int) + 1) = ((i + 1 : Nat) : Int) := by rw [w64 _ (by omega) (by omega)]; omega
theorem rd_nat (l : List Int) (i : Nat) : rd l (i : Int) = l.getD i 0 := by simp [rd]
theorem getD_lt (l : List Int) (i : Nat) (h : i < l.length) : l.getD i 0 = l[i] := by simp [List.getD_eq_getElem?_getD, h]

theorem laws_toIntS_run (x0 : List Int) (hn : x0.length ≤ 140737488351232) (d : Nat) : ∀ (k i : Nat) (x3 : List Int), i + d = x0.length → x3.length = x0.length → (∀ j, j < i → x3[j]? = x0[j]?) → d < k →
    laws_toIntS.l0 k x0 x3 (i : Int) = some x0 := by
  induction d with
  | zero =>
    intro k i x3 hi hl hj hk
    obtain ⟨k, rfl⟩ : ∃ m, k = m + 1 := ⟨k - 1, by omega⟩
    simp only [laws_toIntS.l0]
    rw [if_neg (by omega)]
    congr 1
    apply List.ext_getElem?
    intro j
    by_cases h : j < i
    · exact hj j h
    · rw [List.getElem?_eq_none (by omega), List.getElem?_eq_none (by omega)]
  | succ d ih =>
    intro k i x3 hi hl hj hk
    obtain ⟨k, rfl⟩ : ∃ m, k = m + 1 := ⟨k - 1, by omega⟩
    simp only [laws_toIntS.l0]
    rw [if_pos (by omega), if_pos (by omega), if_pos (by omega), w64s i (by omega)]
    refine ih k (i + 1) _ (by omega) (by simpa using hl) ?_ (by omega)
    intro j hji
    rw [Int.toNat_natCast, rd_nat, List.getElem?_set]
    by_cases h : i = j
    · subst h
      rw [if_pos rfl, if_pos (by omega), getD_lt _ _ (by omega), List.getElem?_eq_getElem (by omega)]
    · rw [if_neg h]
      exact hj j (by omega)
theorem laws_toIntS_f (l : List Int) (hn : l.length ≤ 1048576) (k : Nat) (hk : l.length < k) : laws_toIntS.f k l = some l := by
  unfold laws_toIntS.f
  rw [if_pos (by omega), if_pos (by omega)]
  exact laws_toIntS_run l (by omega) l.length k 0 _ (by omega) (by simp) (fun j hj => by omega) hk

theorem laws_eqIntS_run (x0 : List Int) (hn : x0.length ≤ 140737488351232) (d : Nat) : ∀ (k i : Nat), i + d = x0.length → d < k → laws_eqIntS.l0 k x0 x0 (i : Int) = some true := by
  induction d with
  | zero =>
    intro k i hi hk
    obtain ⟨k, rfl⟩ : ∃ m, k = m + 1 := ⟨k - 1, by omega⟩
    simp only [laws_eqIntS.l0]
    rw [if_neg (by omega)]
  | succ d ih =>
    intro k i hi hk
    obtain ⟨k, rfl⟩ : ∃ m, k = m + 1 := ⟨k - 1, by omega⟩
    simp only [laws_eqIntS.l0]
    rw [if_pos (by omega), if_pos (by omega), if_pos (by omega), if_pos trivial, w64s i (by omega)]
    exact ih k (i + 1) (by omega) (by omega)
theorem laws_eqIntS_f (l : List Int) (hn : l.length ≤ 140737488351232) (k : Nat) (hk : l.length < k) : laws_eqIntS.f k l l = some true := by
  unfold laws_eqIntS.f
  rw [if_pos rfl]
  exact laws_eqIntS_run l hn l.length k 0 (by omega) hk

/-- Parts: each number's is at most itself, and its own. -/
def goodAt (l : List Int) (i : Nat) : Prop := 0 ≤ l.getD i 0 ∧ l.getD i 0 ≤ (i : Int) ∧ l.getD (l.getD i 0).toNat 0 = l.getD i 0
instance (l : List Int) (i : Nat) : Decidable (goodAt l i) := by unfold goodAt; infer_instance
def okParts (l : List Int) : Bool := decide ((∀ i : Nat, i < l.length → goodAt l i) ∧ l.length ≤ 200)
theorem rd_int (l : List Int) (x : Int) : rd l x = l.getD x.toNat 0 := rfl
theorem spec_GoodParts_run (x0 : List Int) (hn : x0.length ≤ 200) (d : Nat) : ∀ (k i : Nat), i + d = x0.length → (∀ j : Nat, j < i → goodAt x0 j) → d < k →
    spec_GoodParts.l0 k x0 x0 (x0.length : Int) (i : Int) = some (okParts x0) := by
  induction d with
  | zero =>
    intro k i hi hj hk
    obtain ⟨k, rfl⟩ : ∃ m, k = m + 1 := ⟨k - 1, by omega⟩
    simp only [spec_GoodParts.l0]
    rw [if_neg (by omega)]
    congr 1
    symm
    exact decide_eq_true ⟨fun j hj' => hj j (by omega), hn⟩
  | succ d ih =>
    intro k i hi hj hk
    obtain ⟨k, rfl⟩ : ∃ m, k = m + 1 := ⟨k - 1, by omega⟩
    simp only [spec_GoodParts.l0]
    rw [if_pos (by omega), if_pos (by omega), if_pos (by omega), rd_nat]
    unfold spec_l1In.f
    by_cases h0 : x0.getD i 0 ≥ 0
    · rw [if_pos h0]
      by_cases h1 : x0.getD i 0 ≤ (i : Int)
      · rw [decide_eq_true h1, Option.bind_some, if_pos rfl, if_pos (by omega), if_pos (by omega), w64s i (by omega), rd_int]
        by_cases h2 : x0.getD (x0.getD i 0).toNat 0 = x0.getD i 0
        · rw [if_pos h2]
          exact ih k (i + 1) (by omega) (fun j hj' => by
            by_cases e : j = i
            · subst e; exact ⟨h0, h1, h2⟩
            · exact hj j (by omega)) (by omega)
        · rw [if_neg h2]
          congr 1
          symm
          exact decide_eq_false (fun h => h2 (h.1 i (by omega)).2.2)
      · rw [decide_eq_false h1, Option.bind_some, if_neg (by simp)]
        congr 1
        symm
        exact decide_eq_false (fun h => h1 (h.1 i (by omega)).2.1)
    · rw [if_neg h0, Option.bind_some, if_neg (by simp)]
      congr 1
      symm
      exact decide_eq_false (fun h => h0 (h.1 i (by omega)).1)
theorem spec_GoodParts_f (l : List Int) (k : Nat) (hk : l.length < k) : spec_GoodParts.f k l = some (okParts l) := by
  unfold spec_GoodParts.f
  by_cases h : (l.length : Int) > 200
  · rw [if_pos h]
    congr 1
    symm
    exact decide_eq_false (fun h' => by have := h'.2; omega)
  · rw [if_neg h]
    exact spec_GoodParts_run l (by omega) l.length k 0 (by omega) (fun j hj => by omega) hk
/-- Parents, as the program asks first. -/
def okPar (l : List Int) : Bool := decide ((∀ i : Nat, i < l.length → 0 ≤ l.getD i 0 ∧ l.getD i 0 ≤ (i : Int)) ∧ l.length ≤ 200)
theorem impl_parentsOK_run (x0 : List Int) (hn : x0.length ≤ 140737488351232) (d : Nat) : ∀ (k i : Nat), i + d = x0.length → (∀ j : Nat, j < i → 0 ≤ x0.getD j 0 ∧ x0.getD j 0 ≤ (j : Int)) → d < k →
    impl_parentsOK.l0 k x0 x0 (x0.length : Int) (i : Int) = some (okPar x0) := by
  induction d with
  | zero =>
    intro k i hi hj hk
    obtain ⟨k, rfl⟩ : ∃ m, k = m + 1 := ⟨k - 1, by omega⟩
    simp only [impl_parentsOK.l0]
    rw [if_neg (by omega)]
    congr 1
    unfold okPar
    rw [decide_eq_decide]
    constructor
    · intro h; exact ⟨fun j hj' => hj j (by omega), by omega⟩
    · intro h; have := h.2; omega
  | succ d ih =>
    intro k i hi hj hk
    obtain ⟨k, rfl⟩ : ∃ m, k = m + 1 := ⟨k - 1, by omega⟩
    simp only [impl_parentsOK.l0]
    rw [if_pos (by omega), if_pos (by omega), if_pos (by omega), rd_nat]
    unfold impl_within.f
    by_cases h0 : x0.getD i 0 ≥ 0
    · rw [if_pos h0]
      by_cases h1 : x0.getD i 0 ≤ (i : Int)
      · rw [decide_eq_true h1, Option.bind_some, if_pos rfl, w64s i (by omega)]
        exact ih k (i + 1) (by omega) (fun j hj' => by
          by_cases e : j = i
          · subst e; exact ⟨h0, h1⟩
          · exact hj j (by omega)) (by omega)
      · rw [decide_eq_false h1, Option.bind_some, if_neg (by simp)]
        congr 1
        symm
        exact decide_eq_false (fun h => h1 (h.1 i (by omega)).2)
    · rw [if_neg h0, Option.bind_some, if_neg (by simp)]
      congr 1
      symm
      exact decide_eq_false (fun h => h0 (h.1 i (by omega)).1)
theorem impl_parentsOK_f (l : List Int) (hn : l.length ≤ 140737488351232) (k : Nat) (hk : l.length < k) : impl_parentsOK.f k l = some (okPar l) :=
  impl_parentsOK_run l hn l.length k 0 (by omega) (fun j hj => by omega) hk
theorem impl_GoodParts_f (l : List Int) (hn : l.length ≤ 140737488351232) (k : Nat) (hk : l.length < k) : impl_GoodParts.f k l = some (okParts l) := by
  unfold impl_GoodParts.f
  rw [impl_parentsOK_f l hn k hk, Option.bind_some]
  cases hp : okPar l with
  | false =>
    rw [if_neg (by simp)]
    congr 1
    symm
    exact decide_eq_false (fun h => by
      have : okPar l = true := decide_eq_true ⟨fun i hi => ⟨(h.1 i hi).1, (h.1 i hi).2.1⟩, h.2⟩
      rw [hp] at this; cases this)
  | true =>
    have hp' := of_decide_eq_true hp
    rw [if_pos rfl]
    congr 1
    rw [Bool.eq_iff_iff]
    simp only [Bool.not_eq_true', List.any_eq_false, okParts, decide_eq_true_eq]
    constructor
    · intro h
      refine ⟨fun i hi => ⟨(hp'.1 i hi).1, (hp'.1 i hi).2, ?_⟩, hp'.2⟩
      have := h l[i] (List.getElem_mem hi)
      rw [getD_lt _ _ hi]
      simpa [rd_int] using this
    · intro h x hx
      obtain ⟨i, hi, rfl⟩ := List.getElem_of_mem hx
      have := (h.1 i hi).2.2
      rw [getD_lt _ _ hi] at this
      simpa [rd_int] using this

/-- What markIntS writes: numbers from one on. -/
def marked (xs : List Int) (m : Int) : List Int := (List.range xs.length).map fun j : Nat => m + (j : Int)
theorem laws_markIntS_run (n : Nat) (hn : n ≤ 140737488350000) (m0 : Nat) (hm0 : m0 ≤ 1000) (d : Nat) : ∀ (k i : Nat) (x : List Int), i + d = n → x.length = n → (∀ j, j < i → x[j]? = some ((m0 : Int) + (j : Int))) → d < k →
    laws_markIntS.l0 k x (((m0 + i : Nat)) : Int) (i : Int) = some (((m0 + n : Nat) : Int), (List.range n).map fun j : Nat => ((m0 : Int) + (j : Int))) := by
  induction d with
  | zero =>
    intro k i x hi hl hj hk
    obtain ⟨k, rfl⟩ : ∃ m, k = m + 1 := ⟨k - 1, by omega⟩
    simp only [laws_markIntS.l0]
    rw [if_neg (by omega)]
    have e : i = n := by omega
    subst e
    congr 2
    apply List.ext_getElem?
    intro j
    by_cases h : j < i
    · rw [hj j h, List.getElem?_map, List.getElem?_range h]; rfl
    · rw [List.getElem?_eq_none (by omega), List.getElem?_eq_none (by simp; omega)]
  | succ d ih =>
    intro k i x hi hl hj hk
    obtain ⟨k, rfl⟩ : ∃ m, k = m + 1 := ⟨k - 1, by omega⟩
    simp only [laws_markIntS.l0]
    rw [if_pos (by omega), if_pos (by omega), w64s i (by omega), w64s (m0 + i) (by omega)]
    refine ih k (i + 1) _ (by omega) (by simpa using hl) ?_ (by omega)
    intro j hji
    rw [Int.toNat_natCast, List.getElem?_set]
    by_cases h : i = j
    · subst h
      rw [if_pos rfl, if_pos (by omega)]
      congr 1
    · rw [if_neg h]
      exact hj j (by omega)
theorem laws_heldIntS_run (n : Nat) (hn : n ≤ 140737488350000) (m0 : Nat) (hm0 : m0 ≤ 1000) (d : Nat) : ∀ (k i : Nat), i + d = n → d < k →
    laws_heldIntS.l0 k ((List.range n).map fun j : Nat => ((m0 : Int) + (j : Int))) (((m0 + i : Nat)) : Int) (i : Int) = some (((m0 + n : Nat) : Int)) := by
  induction d with
  | zero =>
    intro k i hi hk
    obtain ⟨k, rfl⟩ : ∃ m, k = m + 1 := ⟨k - 1, by omega⟩
    simp only [laws_heldIntS.l0]
    rw [if_neg (by simp; omega)]
    congr 2
    omega
  | succ d ih =>
    intro k i hi hk
    obtain ⟨k, rfl⟩ : ∃ m, k = m + 1 := ⟨k - 1, by omega⟩
    simp only [laws_heldIntS.l0]
    have hr : rd ((List.range n).map fun j : Nat => ((m0 : Int) + (j : Int))) (i : Int) = ((m0 + i : Nat) : Int) := by
      rw [rd_nat, getD_lt _ _ (by simp; omega)]
      simp
    rw [if_pos (by simp; omega), if_pos (by omega), hr, if_pos rfl, w64s i (by omega), w64s (m0 + i) (by omega)]
    exact ih k (i + 1) (by omega) (by omega)
theorem laws_markIntS_f (x : List Int) (hn : x.length ≤ 140737488350000) (k : Nat) (hk : x.length < k) : laws_markIntS.f k x 1 = some (((1 + x.length : Nat) : Int), (List.range x.length).map fun j : Nat => ((1 : Nat) : Int) + (j : Int)) :=
  laws_markIntS_run x.length hn 1 (by omega) x.length k 0 x (by omega) rfl (fun j hj => by omega) hk
theorem laws_heldIntS_f (n : Nat) (hn : n ≤ 140737488350000) (k : Nat) (hk : n < k) : laws_heldIntS.f k ((List.range n).map fun j : Nat => ((1 : Nat) : Int) + (j : Int)) 1 = some (((1 + n : Nat) : Int)) :=
  laws_heldIntS_run n hn 1 (by omega) n k 0 (by omega) hk

theorem members_run (l : List Int) (hn : l.length ≤ 200) (a : Nat) (ha : a < l.length) (d : Nat) : ∀ (k i : Nat) (x : List Int), i + d = l.length → x.length ≤ i → d < k →
    ∃ r : List Int, r.length ≤ 200 ∧ spec_l5Members.l0 k l (a : Int) x l (l.length : Int) (i : Int) = some r ∧ impl_members.l0 k (rd l (a : Int)) x l (l.length : Int) (i : Int) = some r := by
  induction d with
  | zero =>
    intro k i x hi hx hk
    obtain ⟨k, rfl⟩ : ∃ m, k = m + 1 := ⟨k - 1, by omega⟩
    simp only [spec_l5Members.l0, impl_members.l0]
    rw [if_neg (by omega), if_neg (by omega)]
    exact ⟨x, by omega, rfl, rfl⟩
  | succ d ih =>
    intro k i x hi hx hk
    obtain ⟨k, rfl⟩ : ∃ m, k = m + 1 := ⟨k - 1, by omega⟩
    simp only [spec_l5Members.l0, impl_members.l0]
    have c1 : (i : Int) < (l.length : Int) := by omega
    have c2 : (a : Int) < (l.length : Int) := by omega
    have c3 : 0 ≤ (i : Int) := by omega
    have c4 : 0 ≤ (a : Int) := by omega
    have c5 : x.length < 17592186044416 := by omega
    simp only [if_pos c1, if_pos c2, if_pos c3, if_pos c4, if_pos c5, w64s i (by omega)]
    by_cases e : rd l (i : Int) = rd l (a : Int)
    · simp only [if_pos e]; exact ih k (i + 1) _ (by omega) (by simp; omega) (by omega)
    · simp only [if_neg e]; exact ih k (i + 1) _ (by omega) (by omega) (by omega)
theorem members_key (l : List Int) (hn : l.length ≤ 1048576) (a : Int) : ∃ p : List Int × Bool, p.1.length ≤ 200 ∧ ∀ k, l.length < k → spec_MembersOf.f k l a = some p ∧ impl_MembersOf.f k l a = some p := by
  cases hg : okParts l with
  | false =>
    refine ⟨([], false), by simp, fun k hk => ?_⟩
    unfold spec_MembersOf.f impl_MembersOf.f spec_l5Asked.f
    rw [spec_GoodParts_f l k hk, impl_GoodParts_f l (by omega) k hk, hg]
    exact ⟨rfl, rfl⟩
  | true =>
    have hl := (of_decide_eq_true hg).2
    by_cases h0 : a ≥ 0
    · by_cases h1 : a ≤ (l.length : Int) - 1
      · obtain ⟨m, rfl⟩ := Int.eq_ofNat_of_zero_le h0
        obtain ⟨r, hr, r1, r2⟩ := members_run l hl m (by omega) l.length (l.length + 1) 0 [] (by omega) (by simp) (by omega)
        refine ⟨(r, true), hr, fun k hk => ?_⟩
        have s1 := at_rounds (fun k => spec_l5Members.mono_l k _ _ _ _ _ _) (by omega : l.length + 1 ≤ k) r1
        have s2 := at_rounds (fun k => impl_members.mono_l k _ _ _ _ _) (by omega : l.length + 1 ≤ k) r2
        unfold spec_MembersOf.f impl_MembersOf.f spec_l5Asked.f spec_l5Members.f impl_members.f spec_l1In.f impl_within.f
        rw [spec_GoodParts_f l k hk, impl_GoodParts_f l (by omega) k hk, hg]
        simp only [Option.bind_some, if_true, w64 ((l.length : Int) - 1) (by omega) (by omega), if_pos h0, decide_eq_true h1, if_pos (show 0 ≤ (m : Int) by omega), if_pos (show (m : Int) < (l.length : Int) by omega)]
        constructor
        · rw [show spec_l5Members.l0 k l (m : Int) [] l (l.length : Int) 0 = some r from s1]; rfl
        · rw [show impl_members.l0 k (rd l (m : Int)) [] l (l.length : Int) 0 = some r from s2]; rfl
      · refine ⟨([], false), by simp, fun k hk => ?_⟩
        unfold spec_MembersOf.f impl_MembersOf.f spec_l5Asked.f spec_l1In.f impl_within.f
        rw [spec_GoodParts_f l k hk, impl_GoodParts_f l (by omega) k hk, hg]
        simp only [Option.bind_some, if_true, w64 ((l.length : Int) - 1) (by omega) (by omega), if_pos h0, decide_eq_false h1]
        exact ⟨rfl, rfl⟩
    · refine ⟨([], false), by simp, fun k hk => ?_⟩
      unfold spec_MembersOf.f impl_MembersOf.f spec_l5Asked.f spec_l1In.f impl_within.f
      rw [spec_GoodParts_f l k hk, impl_GoodParts_f l (by omega) k hk, hg]
      simp only [Option.bind_some, if_true, if_neg h0]
      exact ⟨rfl, rfl⟩
theorem FnExactMembersOf : laws_FnExactMembersOf.Pure := by
  intro l a _ _ _ _
  by_cases h : (l.length : Int) > 1048576
  · exact ⟨1, by unfold laws_FnExactMembersOf.f; rw [if_pos h]⟩
  · have hn : l.length ≤ 1048576 := by omega
    obtain ⟨⟨P, ok⟩, hP, hk⟩ := members_key l hn a
    simp only at hP
    obtain ⟨K, hK⟩ : ∃ K, K = l.length + P.length + 3 := ⟨_, rfl⟩
    refine ⟨K + 3, ?_⟩
    unfold laws_FnExactMembersOf.f
    rw [if_neg h]
    have e1 := fun j => laws_toIntS_f l hn (K + j) (by omega)
    have s1 := fun j => (hk (K + j) (by omega)).1
    have s2 := fun j => (hk (K + j) (by omega)).2
    have e4 := fun j => laws_eqIntS_f l (by omega) (K + j) (by omega)
    have e5 := fun j => laws_eqIntS_f P (by omega) (K + j) (by omega)
    have m1 := fun j => laws_markIntS_f l (by omega) (K + j) (by omega)
    have m2 := fun j => laws_markIntS_f P (by omega) (K + j) (by omega)
    have h1 := fun j => laws_heldIntS_f l.length (by omega) (K + j) (by omega)
    have h2 := fun j => laws_heldIntS_f P.length (by omega) (K + j) (by omega)
    have n0 : ∀ n : Nat, ¬ ((n : Int) < 0) := fun n => by omega
    have z0 := e1 0; have z1 := s1 0; have z2 := s2 0; have z3 := e4 0; have z4 := e5 0; have z5 := m1 0; have z6 := m2 0; have z7 := h1 0; have z8 := h2 0
    simp only [Nat.add_zero] at z0 z1 z2 z3 z4 z5 z6 z7 z8
    simp only [e1, s1, s2, e5, Option.bind_some, if_true, bne_self_eq_false]
    simp only [laws_FnExactMembersOf.j0, Bool.false_eq_true, if_false, e1, e4, e5, m1, n0, Option.bind_some, if_true, bne_self_eq_false]
    simp only [laws_FnExactMembersOf.j1, Bool.false_eq_true, if_false, e1, s2, e4, e5, m1, m2, h1, h2, n0, Option.bind_some, if_true, bne_self_eq_false]
    simp only [laws_FnExactMembersOf.j2, Bool.false_eq_true, if_false, z0, z1, z2, z3, z4, z5, z6, z7, z8, n0, Option.bind_some, if_true]

end Go.Proofs.Ytcckpcgmpmlioaa.Pure
namespace Go.Proofs.Ytcckpcgmpmlioaa.PrintWords
/-- The name by which the printed row asks for it. -/
theorem sized_ints {H : Type} {enc : TypeId × Value → H} {P : Program} {W : World} {base : Nat} {spare : Nat → Bool} {held : Bool} {t e : TypeId} {k : IntKind} {a : Option Addr} {len cap : Nat} {d : DataW H} {ps : List MemPlace} {ts : List TypeId} {ds : List (DataW H)} {j : Nat}
    (hsz : (DataW.weightsEach P ts ds).all (· ≤ reachBytes) = true) (ht : ts[j]? = some t) (hd : ds[j]? = some d) (hu : P.underlying t = some (.slice e)) (he : P.underlying e = some (.int k)) (hc : P.cellsOf e = 1) {B : Nat} (hB : P.bytesOf e = B)
    (h : DataW.Trod enc P W base spare held t (.slice a len cap) d ps) : len * B ≤ 140737488351232 := Go.Proofs.YtcckpcgmpmlioaaW.PrintWords.sized_ints hsz ht hd hu he hc hB h
end Go.Proofs.Ytcckpcgmpmlioaa.PrintWords
