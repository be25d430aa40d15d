/- The program's NodesIn and the reference's answer alike at every graph and number; no condition. -/
import Derived.Test.YtakblgcheakbnaaPFnExactNodesInx9
import Derived.Test.YtakblgcheakbnaaRdFnExactNodesIn
set_option linter.unusedVariables false
set_option linter.unusedSimpArgs false
namespace Go.Proofs.Ytakblgcheakbnaa.Pure
open Go.RowKit Go.Proofs.Ytakblgcheakbnaa.PFnExactNodesIn Go.Proofs.YtakblgcheakbnaaW.PrintWords Go.Proofs.YtakblgcheakbnaaW.PrintLast Go.Proofs.YtakblgcheakbnaaW.PrintMore

theorem w64 (x : Int) (h0 : -9223372036854775808 ≤ x) (h1 : x ≤ 9223372036854775807) : wrap64 x = x := by unfold wrap64; omega
theorem w64s (i : Nat) (h : i ≤ 140737488355328) : wrap64 ((i : Int) + 1) = ((i + 1 : Nat) : Int) := by rw [w64 _ (by omega) (by omega)]; omega
theorem rd_nat (l : List Int) (i : Nat) : rd l (i : Int) = l.getD i 0 := by simp [rd]
theorem getD_lt (l : List Int) (i : Nat) (h : i < l.length) : l.getD i 0 = l[i] := by simp [List.getD_eq_getElem?_getD, h]

theorem laws_toIntS_run (x0 : List Int) (hn : x0.length ≤ 140737488351232) (d : Nat) : ∀ (k i : Nat) (x3 : List Int), i + d = x0.length → x3.length = x0.length → (∀ j, j < i → x3[j]? = x0[j]?) → d < k →
    laws_toIntS.l0 k x0 x3 (i : Int) = some x0 := by
  induction d with
  | zero =>
    intro k i x3 hi hl hj hk
    obtain ⟨k, rfl⟩ : ∃ m, k = m + 1 := ⟨k - 1, by omega⟩
    simp only [laws_toIntS.l0]
    rw [if_neg (by omega)]
    congr 1
    apply List.ext_getElem?
    intro j
    by_cases h : j < i
    · exact hj j h
    · rw [List.getElem?_eq_none (by omega), List.getElem?_eq_none (by omega)]
  | succ d ih =>
    intro k i x3 hi hl hj hk
    obtain ⟨k, rfl⟩ : ∃ m, k = m + 1 := ⟨k - 1, by omega⟩
    simp only [laws_toIntS.l0]
    rw [if_pos (by omega), if_pos (by omega), if_pos (by omega), w64s i (by omega)]
    refine ih k (i + 1) _ (by omega) (by simpa using hl) ?_ (by omega)
    intro j hji
    rw [Int.toNat_natCast, rd_nat, List.getElem?_set]
    by_cases h : i = j
    · subst h
      rw [if_pos rfl, if_pos (by omega), getD_lt _ _ (by omega), List.getElem?_eq_getElem (by omega)]
    · rw [if_neg h]
      exact hj j (by omega)
theorem laws_toIntS_f (l : List Int) (hn : l.length ≤ 1048576) (k : Nat) (hk : l.length < k) : laws_toIntS.f k l = some l := by
  unfold laws_toIntS.f
  rw [if_pos (by omega), if_pos (by omega)]
  exact laws_toIntS_run l (by omega) l.length k 0 _ (by omega) (by simp) (fun j hj => by omega) hk

theorem laws_eqIntS_run (x0 : List Int) (hn : x0.length ≤ 140737488351232) (d : Nat) : ∀ (k i : Nat), i + d = x0.length → d < k → laws_eqIntS.l0 k x0 x0 (i : Int) = some true := by
  induction d with
  | zero =>
    intro k i hi hk
    obtain ⟨k, rfl⟩ : ∃ m, k = m + 1 := ⟨k - 1, by omega⟩
    simp only [laws_eqIntS.l0]
    rw [if_neg (by omega)]
  | succ d ih =>
    intro k i hi hk
    obtain ⟨k, rfl⟩ : ∃ m, k = m + 1 := ⟨k - 1, by omega⟩
    simp only [laws_eqIntS.l0]
    rw [if_pos (by omega), if_pos (by omega), if_pos (by omega), if_pos trivial, w64s i (by omega)]
    exact ih k (i + 1) (by omega) (by omega)
theorem laws_eqIntS_f (l : List Int) (hn : l.length ≤ 140737488351232) (k : Nat) (hk : l.length < k) : laws_eqIntS.f k l l = some true := by
  unfold laws_eqIntS.f
  rw [if_pos rfl]
  exact laws_eqIntS_run l hn l.length k 0 (by omega) hk

/-- Parts: each number's is at most itself, and its own. -/
def goodAt (l : List Int) (i : Nat) : Prop := 0 ≤ l.getD i 0 ∧ l.getD i 0 ≤ (i : Int) ∧ l.getD (l.getD i 0).toNat 0 = l.getD i 0
instance (l : List Int) (i : Nat) : Decidable (goodAt l i) := by unfold goodAt; infer_instance
def okParts (l : List Int) : Bool := decide ((∀ i : Nat, i < l.length → goodAt l i) ∧ l.length ≤ 200)
theorem rd_int (l : List Int) (x : Int) : rd l x = l.getD x.toNat 0 := rfl
theorem spec_GoodParts_run (x0 : List Int) (hn : x0.length ≤ 200) (d : Nat) : ∀ (k i : Nat), i + d = x0.length → (∀ j : Nat, j < i → goodAt x0 j) → d < k →
    spec_GoodParts.l0 k x0 x0 (x0.length : Int) (i : Int) = some (okParts x0) := by
  induction d with
  | zero =>
    intro k i hi hj hk
    obtain ⟨k, rfl⟩ : ∃ m, k = m + 1 := ⟨k - 1, by omega⟩
    simp only [spec_GoodParts.l0]
    rw [if_neg (by omega)]
    congr 1
    symm
    exact decide_eq_true ⟨fun j hj' => hj j (by omega), hn⟩
  | succ d ih =>
    intro k i hi hj hk
    obtain ⟨k, rfl⟩ : ∃ m, k = m + 1 := ⟨k - 1, by omega⟩
    simp only [spec_GoodParts.l0]
    rw [if_pos (by omega), if_pos (by omega), if_pos (by omega), rd_nat]
    unfold spec_l1In.f
    by_cases h0 : x0.getD i 0 ≥ 0
    · rw [if_pos h0]
      by_cases h1 : x0.getD i 0 ≤ (i : Int)
      · rw [decide_eq_true h1, Option.bind_some, if_pos rfl, if_pos (by omega), if_pos (by omega), w64s i (by omega), rd_int]
        by_cases h2 : x0.getD (x0.getD i 0).toNat 0 = x0.getD i 0
        · rw [if_pos h2]
          exact ih k (i + 1) (by omega) (fun j hj' => by
            by_cases e : j = i
            · subst e; exact ⟨h0, h1, h2⟩
            · exact hj j (by omega)) (by omega)
        · rw [if_neg h2]
          congr 1
          symm
          exact decide_eq_false (fun h => h2 (h.1 i (by omega)).2.2)
      · rw [decide_eq_false h1, Option.bind_some, if_neg (by simp)]
        congr 1
        symm
        exact decide_eq_false (fun h => h1 (h.1 i (by omega)).2.1)
    · rw [if_neg h0, Option.bind_some, if_neg (by simp)]
      congr 1
      symm
      exact decide_eq_false (fun h => h0 (h.1 i (by omega)).1)
theorem spec_GoodParts_f (l : List Int) (k : Nat) (hk : l.length < k) : spec_GoodParts.f k l = some (okParts l) := by
  unfold spec_GoodParts.f
  by_cases h : (l.length : Int) > 200
  · rw [if_pos h]
    congr 1
    symm
    exact decide_eq_false (fun h' => by have := h'.2; omega)
  · rw [if_neg h]
    exact spec_GoodParts_run l (by omega) l.length k 0 (by omega) (fun j hj => by omega) hk
/-- Parents, as the program asks first. -/
def okPar (l : List Int) : Bool := decide ((∀ i : Nat, i < l.length → 0 ≤ l.getD i 0 ∧ l.getD i 0 ≤ (i : Int)) ∧ l.length ≤ 200)
theorem impl_parentsOK_run (x0 : List Int) (hn : x0.length ≤ 140737488351232) (d : Nat) : ∀ (k i : Nat), i + d = x0.length → (∀ j : Nat, j < i → 0 ≤ x0.getD j 0 ∧ x0.getD j 0 ≤ (j : Int)) → d < k →
    impl_parentsOK.l0 k x0 x0 (x0.length : Int) (i : Int) = some (okPar x0) := by
  induction d with
  | zero =>
    intro k i hi hj hk
    obtain ⟨k, rfl⟩ : ∃ m, k = m + 1 := ⟨k - 1, by omega⟩
    simp only [impl_parentsOK.l0]
    rw [if_neg (by omega)]
    congr 1
    unfold okPar
    rw [decide_eq_decide]
    constructor
    · intro h; exact ⟨fun j hj' => hj j (by omega), by omega⟩
    · intro h; have := h.2; omega
  | succ d ih =>
    intro k i hi hj hk
    obtain ⟨k, rfl⟩ : ∃ m, k = m + 1 := ⟨k - 1, by omega⟩
    simp only [impl_parentsOK.l0]
    rw [if_pos (by omega), if_pos (by omega), if_pos (by omega), rd_nat]
    unfold impl_within.f
    by_cases h0 : x0.getD i 0 ≥ 0
    · rw [if_pos h0]
      by_cases h1 : x0.getD i 0 ≤ (i : Int)
      · rw [decide_eq_true h1, Option.bind_some, if_pos rfl, w64s i (by omega)]
        exact ih k (i + 1) (by omega) (fun j hj' => by
          by_cases e : j = i
          · subst e; exact ⟨h0, h1⟩
          · exact hj j (by omega)) (by omega)
      · rw [decide_eq_false h1, Option.bind_some, if_neg (by simp)]
        congr 1
        symm
        exact decide_eq_false (fun h => h1 (h.1 i (by omega)).2)
    · rw [if_neg h0, Option.bind_some, if_neg (by simp)]
      congr 1
      symm
      exact decide_eq_false (fun h => h0 (h.1 i (by omega)).1)
theorem impl_parentsOK_f (l : List Int) (hn : l.length ≤ 140737488351232) (k : Nat) (hk : l.length < k) : impl_parentsOK.f k l = some (okPar l) :=
  impl_parentsOK_run l hn l.length k 0 (by omega) (fun j hj => by omega) hk
theorem impl_GoodParts_f (l : List Int) (hn : l.length ≤ 140737488351232) (k : Nat) (hk : l.length < k) : impl_GoodParts.f k l = some (okParts l) := by
  unfold impl_GoodParts.f
  rw [impl_parentsOK_f l hn k hk, Option.bind_some]
  cases hp : okPar l with
  | false =>
    rw [if_neg (by simp)]
    congr 1
    symm
    exact decide_eq_false (fun h => by
      have : okPar l = true := decide_eq_true ⟨fun i hi => ⟨(h.1 i hi).1, (h.1 i hi).2.1⟩, h.2⟩
      rw [hp] at this; cases this)
  | true =>
    have hp' := of_decide_eq_true hp
    rw [if_pos rfl]
    congr 1
    rw [Bool.eq_iff_iff]
    simp only [Bool.not_eq_true', List.any_eq_false, okParts, decide_eq_true_eq]
    constructor
    · intro h
      refine ⟨fun i hi => ⟨(hp'.1 i hi).1, (hp'.1 i hi).2, ?_⟩, hp'.2⟩
      have := h l[i] (List.getElem_mem hi)
      rw [getD_lt _ _ hi]
      simpa [rd_int] using this
    · intro h x hx
      obtain ⟨i, hi, rfl⟩ := List.getElem_of_mem hx
      have := (h.1 i hi).2.2
      rw [getD_lt _ _ hi] at this
      simpa [rd_int] using this

/-- What markIntS writes: numbers from one on. -/
def marked (xs : List Int) (m : Int) : List Int := (List.range xs.length).map fun j : Nat => m + (j : Int)
theorem laws_markIntS_run (n : Nat) (hn : n ≤ 140737480000000) (m0 : Nat) (hm0 : m0 ≤ 3000000) (d : Nat) : ∀ (k i : Nat) (x : List Int), i + d = n → x.length = n → (∀ j, j < i → x[j]? = some ((m0 : Int) + (j : Int))) → d < k →
    laws_markIntS.l0 k x (((m0 + i : Nat)) : Int) (i : Int) = some (((m0 + n : Nat) : Int), (List.range n).map fun j : Nat => ((m0 : Int) + (j : Int))) := by
  induction d with
  | zero =>
    intro k i x hi hl hj hk
    obtain ⟨k, rfl⟩ : ∃ m, k = m + 1 := ⟨k - 1, by omega⟩
    simp only [laws_markIntS.l0]
    rw [if_neg (by omega)]
    have e : i = n := by omega
    subst e
    congr 2
    apply List.ext_getElem?
    intro j
    by_cases h : j < i
    · rw [hj j h, List.getElem?_map, List.getElem?_range h]; rfl
    · rw [List.getElem?_eq_none (by omega), List.getElem?_eq_none (by simp; omega)]
  | succ d ih =>
    intro k i x hi hl hj hk
    obtain ⟨k, rfl⟩ : ∃ m, k = m + 1 := ⟨k - 1, by omega⟩
    simp only [laws_markIntS.l0]
    rw [if_pos (by omega), if_pos (by omega), w64s i (by omega), w64s (m0 + i) (by omega)]
    refine ih k (i + 1) _ (by omega) (by simpa using hl) ?_ (by omega)
    intro j hji
    rw [Int.toNat_natCast, List.getElem?_set]
    by_cases h : i = j
    · subst h
      rw [if_pos rfl, if_pos (by omega)]
      congr 1
    · rw [if_neg h]
      exact hj j (by omega)
theorem laws_heldIntS_run (n : Nat) (hn : n ≤ 140737480000000) (m0 : Nat) (hm0 : m0 ≤ 3000000) (d : Nat) : ∀ (k i : Nat), i + d = n → d < k →
    laws_heldIntS.l0 k ((List.range n).map fun j : Nat => ((m0 : Int) + (j : Int))) (((m0 + i : Nat)) : Int) (i : Int) = some (((m0 + n : Nat) : Int)) := by
  induction d with
  | zero =>
    intro k i hi hk
    obtain ⟨k, rfl⟩ : ∃ m, k = m + 1 := ⟨k - 1, by omega⟩
    simp only [laws_heldIntS.l0]
    rw [if_neg (by simp; omega)]
    congr 2
    omega
  | succ d ih =>
    intro k i hi hk
    obtain ⟨k, rfl⟩ : ∃ m, k = m + 1 := ⟨k - 1, by omega⟩
    simp only [laws_heldIntS.l0]
    have hr : rd ((List.range n).map fun j : Nat => ((m0 : Int) + (j : Int))) (i : Int) = ((m0 + i : Nat) : Int) := by
      rw [rd_nat, getD_lt _ _ (by simp; omega)]
      simp
    rw [if_pos (by simp; omega), if_pos (by omega), hr, if_pos rfl, w64s i (by omega), w64s (m0 + i) (by omega)]
    exact ih k (i + 1) (by omega) (by omega)
theorem laws_markIntS_f (x : List Int) (hn : x.length ≤ 140737480000000) (k : Nat) (hk : x.length < k) : laws_markIntS.f k x 1 = some (((1 + x.length : Nat) : Int), (List.range x.length).map fun j : Nat => ((1 : Nat) : Int) + (j : Int)) :=
  laws_markIntS_run x.length hn 1 (by omega) x.length k 0 x (by omega) rfl (fun j hj => by omega) hk
theorem laws_heldIntS_f (n : Nat) (hn : n ≤ 140737480000000) (k : Nat) (hk : n < k) : laws_heldIntS.f k ((List.range n).map fun j : Nat => ((1 : Nat) : Int) + (j : Int)) 1 = some (((1 + n : Nat) : Int)) :=
  laws_heldIntS_run n hn 1 (by omega) n k 0 (by omega) hk
theorem laws_markIntS_g (x : List Int) (hn : x.length ≤ 140737480000000) (m0 : Nat) (hm0 : m0 ≤ 3000000) (k : Nat) (hk : x.length < k) : laws_markIntS.f k x (m0 : Int) = some (((m0 + x.length : Nat) : Int), (List.range x.length).map fun j : Nat => (m0 : Int) + (j : Int)) :=
  laws_markIntS_run x.length hn m0 hm0 x.length k 0 x (by omega) rfl (fun j hj => by omega) hk

def cvE (x : S130) : S114 := ⟨x.f0, x.f1, x.f2⟩
theorem szI_f (l : List Int) (m : Int) (hm0 : 0 ≤ m) (hm : m ≤ 1048576) (hl : l.length ≤ 9223372036854775807) : laws_szIntS.f l m = some (if m - (l.length : Int) < 0 then -1 else m - (l.length : Int)) := by
  unfold laws_szIntS.f
  have e : wrap64 (m - (l.length : Int)) = m - (l.length : Int) := by unfold wrap64; omega
  rw [e]
  split <;> rfl
theorem rdLE_nat (l : List S130) (i : Nat) (h : i < l.length) : rd_T130 l (i : Int) = l[i] := by unfold rd_T130; rw [Int.toNat_natCast, List.getD_eq_getElem?_getD, List.getElem?_eq_getElem h]; rfl
theorem rdE_nat (l : List S114) (i : Nat) (h : i < l.length) : rd_T114 l (i : Int) = l[i] := by unfold rd_T114; rw [Int.toNat_natCast, List.getD_eq_getElem?_getD, List.getElem?_eq_getElem h]; rfl
theorem szE_run (x0 : List S130) (hn : x0.length ≤ 1048576) (hin : ∀ x ∈ x0, x.f2.length ≤ 9223372036854775807) (d : Nat) : ∀ (k i : Nat) (m : Int), i + d = x0.length → d < k → 0 ≤ m → m ≤ 1048576 →
    ∃ t, laws_szENodeS.l0 k x0 m (i : Int) = some t ∧ (t < 0 ∨ (0 ≤ t ∧ t + ((((x0.drop i).map fun x => x.f2.length).sum : Nat) : Int) = m ∧ ∀ j, i ≤ j → (h : j < x0.length) → x0[j].f2.length ≤ 1048576)) := by
  induction d with
  | zero =>
    intro k i m hi hk h0 h1
    obtain ⟨k, rfl⟩ : ∃ j, k = j + 1 := ⟨k - 1, by omega⟩
    simp only [laws_szENodeS.l0]
    rw [if_neg (by omega)]
    exact ⟨_, rfl, .inr ⟨h0, by rw [List.drop_of_length_le (by omega)]; simp, fun j hj h => by omega⟩⟩
  | succ d ih =>
    intro k i m hi hk h0 h1
    obtain ⟨k, rfl⟩ : ∃ j, k = j + 1 := ⟨k - 1, by omega⟩
    have hil : i < x0.length := by omega
    have hx := hin _ (List.getElem_mem hil)
    simp only [laws_szENodeS.l0]
    rw [if_pos (by omega), if_pos (by omega), rdLE_nat _ i hil]
    unfold laws_szENode.f
    rw [szI_f _ m h0 h1 hx, Option.bind_some]
    by_cases hneg : m - (x0[i].f2.length : Int) < 0
    · rw [if_pos hneg, if_pos (by omega), Option.bind_some, if_pos (by omega)]
      exact ⟨_, rfl, .inl (by omega)⟩
    · rw [if_neg hneg, if_neg (by omega), Option.bind_some, if_neg (by omega), w64s i (by omega)]
      obtain ⟨t, ht, hh⟩ := ih k (i + 1) (m - (x0[i].f2.length : Int)) (by omega) (by omega) (by omega) (by omega)
      refine ⟨t, ht, hh.imp id (fun h => ⟨h.1, by have h2 := h.2.1; rw [List.drop_eq_getElem_cons hil, List.map_cons, List.sum_cons]; omega, fun j hj hjl => ?_⟩)⟩
      by_cases e : j = i
      · subst e; omega
      · exact h.2.2 j (by omega) hjl
theorem szE_f (l : List S130) (m : Int) (h0 : 0 ≤ m) (hm : m ≤ 1048576) (hl : l.length ≤ 9223372036854775807) (hin : ∀ x ∈ l, x.f2.length ≤ 9223372036854775807) (k : Nat) (hk : 1048576 < k) : ∃ t, laws_szENodeS.f k l m = some t ∧ (t < 0 ∨ (0 ≤ t ∧ t ≤ 1048576 ∧ l.length ≤ 1048576 ∧ (∀ x ∈ l, x.f2.length ≤ 1048576) ∧ (l.map fun x => x.f2.length).sum ≤ 1048576)) := by
  unfold laws_szENodeS.f
  have e : wrap64 (m - (l.length : Int)) = m - (l.length : Int) := by unfold wrap64; omega
  rw [e]
  by_cases h : m - (l.length : Int) < 0
  · rw [if_pos h]; exact ⟨_, rfl, .inl (by omega)⟩
  · rw [if_neg h]
    obtain ⟨t, ht, hh⟩ := szE_run l (by omega) hin l.length k 0 (m - (l.length : Int)) (by omega) (by omega) (by omega) (by omega)
    refine ⟨t, ht, hh.imp id (fun h => ?_)⟩
    have h2 := h.2.1
    rw [List.drop_zero] at h2
    refine ⟨h.1, by omega, by omega, fun x hx => ?_, by omega⟩
    obtain ⟨j, hj, rfl⟩ := List.getElem_of_mem hx
    exact h.2.2 j (Nat.zero_le _) hj
theorem toE_run (x0 : List S130) (hn : x0.length ≤ 1048576) (hin : ∀ x ∈ x0, x.f2.length ≤ 1048576) (d : Nat) : ∀ (k i : Nat) (x3 : List S114), i + d = x0.length → x3.length = x0.length → (∀ j, j < i → x3[j]? = (x0.map cvE)[j]?) → d + 1048577 < k →
    laws_toENodeS.l0 k x0 x3 (i : Int) = some (x0.map cvE) := by
  induction d with
  | zero =>
    intro k i x3 hi hl hj hk
    obtain ⟨k, rfl⟩ : ∃ m, k = m + 1 := ⟨k - 1, by omega⟩
    simp only [laws_toENodeS.l0]
    rw [if_neg (by omega)]
    congr 1
    apply List.ext_getElem?
    intro j
    by_cases h : j < i
    · exact hj j h
    · rw [List.getElem?_eq_none (by omega), List.getElem?_eq_none (by rw [List.length_map]; omega)]
  | succ d ih =>
    intro k i x3 hi hl hj hk
    obtain ⟨k, rfl⟩ : ∃ m, k = m + 1 := ⟨k - 1, by omega⟩
    have hil : i < x0.length := by omega
    have hx := hin _ (List.getElem_mem hil)
    simp only [laws_toENodeS.l0]
    rw [if_pos (by omega), if_pos (by omega), rdLE_nat _ i hil]
    unfold laws_toENode.f
    rw [laws_toIntS_f _ hx k (by omega), Option.bind_some, Option.bind_some, if_pos (by omega), w64s i (by omega)]
    refine ih k (i + 1) _ (by omega) (by simpa using hl) ?_ (by omega)
    intro j hji
    rw [Int.toNat_natCast, List.getElem?_set]
    by_cases h : i = j
    · subst h
      rw [if_pos rfl, if_pos (by omega), List.getElem?_map, List.getElem?_eq_getElem hil]
      rfl
    · rw [if_neg h]
      exact hj j (by omega)
theorem toE_f (l : List S130) (hn : l.length ≤ 1048576) (hin : ∀ x ∈ l, x.f2.length ≤ 1048576) (k : Nat) (hk : 2097160 < k) : laws_toENodeS.f k l = some (l.map cvE) := by
  unfold laws_toENodeS.f
  rw [if_pos (by omega), if_pos (by omega)]
  exact toE_run l hn hin l.length k 0 _ (by omega) (by simp) (fun j hj => by omega) (by omega)
theorem eqE_run (x0 : List S114) (hn : x0.length ≤ 1048576) (hin : ∀ x ∈ x0, x.f2.length ≤ 1048576) (d : Nat) : ∀ (k i : Nat), i + d = x0.length → d + 1048577 < k → laws_eqENodeS.l0 k x0 x0 (i : Int) = some true := by
  induction d with
  | zero =>
    intro k i hi hk
    obtain ⟨k, rfl⟩ : ∃ m, k = m + 1 := ⟨k - 1, by omega⟩
    simp only [laws_eqENodeS.l0]
    rw [if_neg (by omega)]
  | succ d ih =>
    intro k i hi hk
    obtain ⟨k, rfl⟩ : ∃ m, k = m + 1 := ⟨k - 1, by omega⟩
    have hil : i < x0.length := by omega
    have hx := hin _ (List.getElem_mem hil)
    simp only [laws_eqENodeS.l0]
    rw [if_pos (by omega), if_pos (by omega), if_pos (by omega), rdE_nat _ i hil]
    unfold laws_eqENode.f
    rw [laws_eqIntS_f _ (by omega) k (by omega), if_pos rfl, if_pos rfl, Option.bind_some, if_pos rfl, Option.bind_some, if_pos rfl, w64s i (by omega)]
    exact ih k (i + 1) (by omega) (by omega)
theorem eqE_f (l : List S114) (hn : l.length ≤ 1048576) (hin : ∀ x ∈ l, x.f2.length ≤ 1048576) (k : Nat) (hk : 2097160 < k) : laws_eqENodeS.f k l l = some true := by
  unfold laws_eqENodeS.f
  rw [if_pos rfl]
  exact eqE_run l hn hin l.length k 0 (by omega) (by omega)
theorem cvE_len (l : List S130) (hin : ∀ x ∈ l, x.f2.length ≤ 1048576) : ∀ x ∈ l.map cvE, x.f2.length ≤ 1048576 := fun x hx => by
  obtain ⟨y, hy, rfl⟩ := List.mem_map.1 hx
  exact hin y hy

theorem szG_f (n : List S130) (p : List Int) (m : Int) (h0 : 0 ≤ m) (hm : m ≤ 1048576) (hl : n.length ≤ 9223372036854775807) (hin : ∀ x ∈ n, x.f2.length ≤ 9223372036854775807) (hp : p.length ≤ 9223372036854775807) (k : Nat) (hk : 1048576 < k) : ∃ t, laws_szEGraph.f k n p m = some t ∧ (t < 0 ∨ (0 ≤ t ∧ t ≤ 1048576 ∧ n.length ≤ 1048576 ∧ (∀ x ∈ n, x.f2.length ≤ 1048576) ∧ p.length ≤ 1048576 ∧ (n.map fun x => x.f2.length).sum ≤ 1048576)) := by
  unfold laws_szEGraph.f
  obtain ⟨t, ht, hh⟩ := szE_f n m h0 hm hl hin k hk
  rw [ht, Option.bind_some]
  by_cases h : t < 0
  · rw [if_pos h]; exact ⟨_, rfl, .inl (by omega)⟩
  · obtain ⟨a, b, c, d, e⟩ := hh.resolve_left h
    rw [if_neg h, szI_f p t a b hp, Option.bind_some]
    by_cases h' : t - (p.length : Int) < 0
    · rw [if_pos h', if_pos (by omega)]; exact ⟨_, rfl, .inl (by omega)⟩
    · rw [if_neg h', if_neg h']; exact ⟨_, rfl, .inr ⟨by omega, by omega, c, d, by omega, e⟩⟩
theorem toG_f (n : List S130) (p : List Int) (hn : n.length ≤ 1048576) (hin : ∀ x ∈ n, x.f2.length ≤ 1048576) (hp : p.length ≤ 1048576) (k : Nat) (hk : 2097160 < k) : laws_toEGraph.f k n p = some (n.map cvE, p) := by
  unfold laws_toEGraph.f
  rw [toE_f n hn hin k hk, Option.bind_some, laws_toIntS_f p hp k (by omega)]
  rfl
theorem eqG_f (n : List S114) (p : List Int) (hn : n.length ≤ 1048576) (hin : ∀ x ∈ n, x.f2.length ≤ 1048576) (hp : p.length ≤ 1048576) (k : Nat) (hk : 2097160 < k) : laws_eqEGraph.f k n p n p = some true := by
  unfold laws_eqEGraph.f
  rw [eqE_f n hn hin k hk, Option.bind_some, if_pos rfl, laws_eqIntS_f p (by omega) k (by omega)]
  rfl

/-- A test at d places from i on. -/
def allB (p : Nat → Bool) : Nat → Nat → Bool
  | _, 0 => true
  | i, d + 1 => p i && allB p (i + 1) d
theorem allB_iff (p : Nat → Bool) (d : Nat) : ∀ i, allB p i d = true ↔ ∀ j, i ≤ j → j < i + d → p j = true := by
  induction d with
  | zero => intro i; exact ⟨fun _ j h1 h2 => by omega, fun _ => rfl⟩
  | succ d ih =>
    intro i
    simp only [allB, Bool.and_eq_true, ih (i + 1)]
    constructor
    · intro h j h1 h2
      by_cases e : j = i
      · subst e; exact h.1
      · exact h.2 j (by omega) (by omega)
    · intro h
      exact ⟨h i (Nat.le_refl _) (by omega), fun j h1 h2 => h j (by omega) (by omega)⟩
theorem allB_congr {p q : Nat → Bool} (d : Nat) : ∀ i, (∀ j, i ≤ j → j < i + d → p j = q j) → allB p i d = allB q i d := by
  induction d with
  | zero => intro i _; rfl
  | succ d ih =>
    intro i h
    simp only [allB]
    rw [h i (Nat.le_refl _) (by omega), ih (i + 1) (fun j h1 h2 => h j (by omega) (by omega))]

/-- A node is right, its kids below a number. -/
def enOK (x : S114) (k : Nat) : Bool := (Tree.numOK x.f0 x.f1 && ((x.f2.length : Int) == Tree.arity x.f0)) && x.f2.all fun c => decide (0 ≤ c ∧ c < (k : Int))
def loose (l : List S114) : Bool := allB (fun i => enOK (l.getD i z114) i) 0 l.length && decide (l.length ≤ 120)
theorem rdE_getD (l : List S114) (i : Nat) : rd_T114 l (i : Int) = l.getD i z114 := by unfold rd_T114; rw [Int.toNat_natCast]
theorem outB_eq (kids : List Int) (k : Nat) (hk : k ≤ 1048576) : (!outB kids (k : Int)) = kids.all fun c => decide (0 ≤ c ∧ c < (k : Int)) := by
  unfold outB
  have e : wrap64 ((k : Int) - 1) = (k : Int) - 1 := by unfold wrap64; omega
  rw [e]
  induction kids with
  | nil => rfl
  | cons x t ih =>
    rw [List.any_cons, List.all_cons, ← ih, Bool.not_or, Bool.not_not]
    congr 1
    rw [decide_eq_decide]; omega
theorem enodeOK_f (x : S114) (k : Nat) (hk : k ≤ 1048576) : impl_enodeOK.f x.f0 x.f1 x.f2 (k : Int) = some (enOK x k) := by
  unfold impl_enodeOK.f enOK
  rw [outB_eq _ k hk, Bool.and_assoc]
theorem looseOK_run (l : List S114) (hl : l.length ≤ 1048576) (d : Nat) : ∀ (k i : Nat), i + d = l.length → d < k →
    impl_looseOK.l0 k l l (l.length : Int) (i : Int) = some (allB (fun i => enOK (l.getD i z114) i) i d && decide (l.length ≤ 120)) := by
  induction d with
  | zero =>
    intro k i hi hk
    obtain ⟨k, rfl⟩ : ∃ m, k = m + 1 := ⟨k - 1, by omega⟩
    simp only [impl_looseOK.l0, allB]
    rw [if_neg (by omega), Bool.true_and]
    congr 1
    rw [decide_eq_decide]; omega
  | succ d ih =>
    intro k i hi hk
    obtain ⟨k, rfl⟩ : ∃ m, k = m + 1 := ⟨k - 1, by omega⟩
    simp only [impl_looseOK.l0, allB]
    rw [if_pos (by omega), if_pos (by omega), if_pos (by omega), rdE_getD, enodeOK_f _ i (by omega), Option.bind_some, w64s i (by omega), ih k (i + 1) (by omega) (by omega)]
    cases enOK (l.getD i z114) i <;> rfl
theorem looseOK_f (l : List S114) (hl : l.length ≤ 1048576) (k : Nat) (hk : l.length < k) : impl_looseOK.f k l = some (loose l) := by
  unfold impl_looseOK.f loose
  exact looseOK_run l hl l.length k 0 (by omega) hk
theorem specArity_f (k : Nat) (hk : 0 < k) (op : Int) : spec_l1Arity.f k op = some (if 1 ≤ op ∧ op ≤ 11 then Tree.arity op else -1) := by
  obtain ⟨k, rfl⟩ : ∃ m, k = m + 1 := ⟨k - 1, by omega⟩
  unfold spec_l1Arity.f Tree.arity
  by_cases h1 : op = 1
  · subst h1; rfl
  · rw [if_neg h1]
    by_cases h2 : op = 2
    · subst h2; rfl
    · rw [if_neg (by omega : ¬ (op = 1 ∨ op = 2))]
      simp only [spec_l1Arity.j0]
      rw [if_neg (by simpa using h2)]
      by_cases h3 : op = 3
      · subst h3; rfl
      · rw [if_neg h3, if_neg h3]
        by_cases h4 : op = 11
        · subst h4; rfl
        · rw [if_neg h4, if_neg h4]
          unfold spec_l1In.f
          by_cases h5 : op ≥ 4
          · by_cases h6 : op ≤ 10
            · rw [if_pos h5, Option.bind_some, decide_eq_true h6, if_pos rfl, if_pos (by omega)]
            · rw [if_pos h5, Option.bind_some, decide_eq_false h6, if_neg (by simp), if_neg (by omega)]
          · rw [if_neg h5, Option.bind_some, if_neg (by simp), if_neg (by omega)]
theorem l6Node_f (op n : Int) (kids : List Int) (k : Nat) (hk : 0 < k) : spec_l6Node.f k op n kids = some (Tree.numOK op n && ((kids.length : Int) == Tree.arity op)) := by
  unfold spec_l6Node.f
  rw [specArity_f k hk, Option.bind_some]
  obtain ⟨k, rfl⟩ : ∃ m, k = m + 1 := ⟨k - 1, by omega⟩
  have hr := Tree.arity_range op
  by_cases hop : 1 ≤ op ∧ op ≤ 11
  · rw [if_pos hop, if_neg (by omega)]
    simp only [spec_l6Node.j0]
    by_cases hl : (kids.length : Int) = Tree.arity op
    · rw [bne_eq_false_iff_eq.2 hl, if_neg (by simp), beq_iff_eq.2 hl, Bool.and_true]
      unfold Tree.numOK
      by_cases h1 : op = 1
      · rw [if_pos h1, if_pos h1]
      · rw [if_neg h1, if_neg h1]
        by_cases h2 : op = 2
        · rw [if_pos h2, if_pos h2]
          by_cases h3 : n ≥ 0
          · rw [if_pos h3]; congr 1; rw [decide_eq_decide]; omega
          · rw [if_neg h3, decide_eq_false (by omega)]
        · rw [if_neg h2, if_neg h2]
          congr 1
          rw [Bool.eq_iff_iff]; simp; omega
    · rw [bne_iff_ne.2 hl, if_pos rfl, beq_eq_false_iff_ne.2 hl, Bool.and_false]
  · rw [if_neg hop, if_pos (by omega)]
    simp only [spec_l6Node.j0]
    rw [if_pos trivial]
    unfold Tree.numOK
    rw [if_neg (by omega), if_neg (by omega), decide_eq_false (by omega), Bool.false_and]
theorem l1In_f (a b c : Int) : spec_l1In.f a b c = some (decide (b ≤ a ∧ a ≤ c)) := by
  unfold spec_l1In.f
  by_cases h : a ≥ b
  · rw [if_pos h]; congr 1; rw [decide_eq_decide]; omega
  · rw [if_neg h, decide_eq_false (by omega)]
theorem l1All_run (l : List Int) (lo hi : Int) (hl : l.length ≤ 1048576) (d : Nat) : ∀ (k i : Nat), i + d = l.length → d < k → spec_l1All.l0 k lo hi l (l.length : Int) (i : Int) = some ((l.drop i).all fun c => decide (lo ≤ c ∧ c ≤ hi)) := by
  induction d with
  | zero =>
    intro k i hi' hk
    obtain ⟨k, rfl⟩ : ∃ m, k = m + 1 := ⟨k - 1, by omega⟩
    simp only [spec_l1All.l0]
    rw [if_neg (by omega), List.drop_of_length_le (by omega)]
    rfl
  | succ d ih =>
    intro k i hi' hk
    obtain ⟨k, rfl⟩ : ∃ m, k = m + 1 := ⟨k - 1, by omega⟩
    have hil : i < l.length := by omega
    simp only [spec_l1All.l0]
    rw [if_pos (by omega), if_pos (by omega), if_pos (by omega), l1In_f, Option.bind_some, w64s i (by omega), ih k (i + 1) (by omega) (by omega), List.drop_eq_getElem_cons hil, List.all_cons, rd_nat, getD_lt l i hil]
    cases decide (lo ≤ l[i] ∧ l[i] ≤ hi) <;> rfl
theorem l1All_f (l : List Int) (lo hi : Int) (hl : l.length ≤ 1048576) (k : Nat) (hk : l.length < k) : spec_l1All.f k l lo hi = some (l.all fun c => decide (lo ≤ c ∧ c ≤ hi)) := by
  unfold spec_l1All.f
  have := l1All_run l lo hi hl l.length k 0 (by omega) hk
  rw [List.drop_zero] at this
  exact this
theorem l6Nodes_run (l : List S114) (hl : l.length ≤ 1048576) (hin : ∀ x ∈ l, x.f2.length ≤ 1048576) (d : Nat) : ∀ (k i : Nat), i + d = l.length → d + 1048577 < k →
    spec_l6Nodes.l0 k l (l.length : Int) (i : Int) = some (allB (fun i => enOK (l.getD i z114) i) i d) := by
  induction d with
  | zero =>
    intro k i hi hk
    obtain ⟨k, rfl⟩ : ∃ m, k = m + 1 := ⟨k - 1, by omega⟩
    simp only [spec_l6Nodes.l0, allB]
    rw [if_neg (by omega)]
  | succ d ih =>
    intro k i hi hk
    obtain ⟨k, rfl⟩ : ∃ m, k = m + 1 := ⟨k - 1, by omega⟩
    have hil : i < l.length := by omega
    have hx : (l.getD i z114).f2.length ≤ 1048576 := by
      rw [List.getD_eq_getElem?_getD, List.getElem?_eq_getElem hil]
      exact hin _ (List.getElem_mem hil)
    have e : wrap64 ((i : Int) - 1) = (i : Int) - 1 := by unfold wrap64; omega
    simp only [spec_l6Nodes.l0, allB]
    rw [if_pos (by omega), if_pos (by omega), if_pos (by omega), rdE_getD, l6Node_f _ _ _ k (by omega), Option.bind_some, w64s i (by omega), ih k (i + 1) (by omega) (by omega), e, l1All_f _ _ _ hx k (by omega)]
    have e2 : (fun c : Int => decide (0 ≤ c ∧ c ≤ (i : Int) - 1)) = fun c => decide (0 ≤ c ∧ c < (i : Int)) := by
      funext c; rw [decide_eq_decide]; omega
    rw [e2]
    unfold enOK
    generalize l.getD i z114 = x
    cases (Tree.numOK x.f0 x.f1 && ((x.f2.length : Int) == Tree.arity x.f0)) with
    | false => rfl
    | true =>
      rw [if_pos rfl, Option.bind_some]
      cases (x.f2.all fun c => decide (0 ≤ c ∧ c < (i : Int))) <;> rfl
theorem l6Nodes_f (l : List S114) (hl : l.length ≤ 1048576) (hin : ∀ x ∈ l, x.f2.length ≤ 1048576) (k : Nat) (hk : 2097160 < k) : spec_l6Nodes.f k l = some (loose l) := by
  unfold spec_l6Nodes.f loose
  by_cases h : (l.length : Int) > 120
  · rw [if_pos h, decide_eq_false (by omega), Bool.and_false]
  · rw [if_neg h, decide_eq_true (by omega), Bool.and_true]
    exact l6Nodes_run l hl hin l.length k 0 (by omega) (by omega)
theorem loose_at {l : List S114} (h : loose l = true) (i : Nat) (hi : i < l.length) : enOK (l.getD i z114) i = true := by
  unfold loose at h
  rw [Bool.and_eq_true, allB_iff] at h
  exact h.1 i (Nat.zero_le _) (by omega)
theorem loose_len {l : List S114} (h : loose l = true) : l.length ≤ 120 := by
  unfold loose at h
  rw [Bool.and_eq_true] at h
  exact of_decide_eq_true h.2
theorem enOK_kids {x : S114} {k : Nat} (h : enOK x k = true) : x.f2.length ≤ 3 ∧ ∀ c ∈ x.f2, 0 ≤ c ∧ c < (k : Int) := by
  unfold enOK at h
  simp only [Bool.and_eq_true, beq_iff_eq, List.all_eq_true, decide_eq_true_eq] at h
  have := Tree.arity_range x.f0
  exact ⟨by omega, h.2⟩
/-- Two nodes are the same. -/
def sameE (x y : S114) : Bool := (x.f0 == y.f0 && x.f1 == y.f1) && x.f2 == y.f2
theorem l1Same_run (a b : List Int) (hab : a.length = b.length) (hl : a.length ≤ 1048576) (d : Nat) : ∀ (k i : Nat), i + d = a.length → d < k → spec_l1Same.l0 k a b (a.length : Int) (i : Int) = some (a.drop i == b.drop i) := by
  induction d with
  | zero =>
    intro k i hi hk
    obtain ⟨k, rfl⟩ : ∃ m, k = m + 1 := ⟨k - 1, by omega⟩
    simp only [spec_l1Same.l0]
    rw [if_neg (by omega), List.drop_of_length_le (by omega), List.drop_of_length_le (by omega)]
    rfl
  | succ d ih =>
    intro k i hi hk
    obtain ⟨k, rfl⟩ : ∃ m, k = m + 1 := ⟨k - 1, by omega⟩
    have ha : i < a.length := by omega
    have hb : i < b.length := by omega
    simp only [spec_l1Same.l0]
    rw [if_pos (by omega), if_pos (by omega), if_pos (by omega), if_pos (by omega), rd_nat, rd_nat, getD_lt a i ha, getD_lt b i hb, w64s i (by omega), ih k (i + 1) (by omega) (by omega), List.drop_eq_getElem_cons ha, List.drop_eq_getElem_cons hb]
    by_cases h : a[i] = b[i]
    · rw [if_pos h, h]; congr 1; rw [Bool.eq_iff_iff, beq_iff_eq, beq_iff_eq]; exact ⟨fun e => by rw [e], fun e => (List.cons.inj e).2⟩
    · rw [if_neg h]; congr 1; symm; rw [beq_eq_false_iff_ne]; intro e; exact h (List.cons.inj e).1
theorem l1Same_f (a b : List Int) (hl : a.length ≤ 1048576) (k : Nat) (hk : a.length < k) : spec_l1Same.f k a b = some (a == b) := by
  unfold spec_l1Same.f
  by_cases h : a.length = b.length
  · rw [if_pos (by omega)]
    have := l1Same_run a b h hl a.length k 0 (by omega) hk
    rw [List.drop_zero, List.drop_zero] at this
    exact this
  · rw [if_neg (by omega)]; congr 1; symm; rw [beq_eq_false_iff_ne]; intro e; exact h (by rw [e])
theorem Equal_eq : ∀ (k : Nat) (a b : List Int) (c d : Int), slices_Equal_int_int.l0 k a b c d = spec_l1Same.l0 k a b c d := by
  intro k
  induction k with
  | zero => intros; rfl
  | succ k ih => intro a b c d; simp only [slices_Equal_int_int.l0, spec_l1Same.l0, ih]
theorem Equal_f (a b : List Int) (hl : a.length ≤ 1048576) (k : Nat) (hk : a.length < k) : slices_Equal_int_int.f k a b = some (a == b) := by
  have := l1Same_f a b hl k hk
  unfold spec_l1Same.f at this
  unfold slices_Equal_int_int.f
  rw [Equal_eq]
  exact this
theorem specAlike_f (x y : S114) (hl : x.f2.length ≤ 1048576) (k : Nat) (hk : x.f2.length < k) : spec_l6Alike.f k x.f0 x.f1 x.f2 y.f0 y.f1 y.f2 = some (sameE x y) := by
  unfold spec_l6Alike.f sameE
  rw [l1Same_f _ _ hl k hk]
  by_cases h0 : x.f0 = y.f0
  · rw [if_pos h0, beq_iff_eq.2 h0]
    by_cases h1 : x.f1 = y.f1
    · rw [if_pos h1, beq_iff_eq.2 h1]; rfl
    · rw [if_neg h1, beq_eq_false_iff_ne.2 h1]; rfl
  · rw [if_neg h0, beq_eq_false_iff_ne.2 h0]; rfl
theorem implAlike_f (x y : S114) (hl : x.f2.length ≤ 1048576) (k : Nat) (hk : x.f2.length < k) : impl_alike.f k x.f0 x.f1 x.f2 y.f0 y.f1 y.f2 = some (sameE x y) := by
  unfold impl_alike.f sameE
  rw [Equal_f _ _ hl k hk]
  by_cases h0 : x.f0 = y.f0
  · rw [if_pos h0, beq_iff_eq.2 h0]
    by_cases h1 : x.f1 = y.f1
    · rw [if_pos h1, beq_iff_eq.2 h1]; rfl
    · rw [if_neg h1, beq_eq_false_iff_ne.2 h1]; rfl
  · rw [if_neg h0, beq_eq_false_iff_ne.2 h0]; rfl
/-- What a graph must obey at a node. -/
def pairOK (nodes : List S114) (parts : List Int) (j i : Nat) : Bool := !(sameE (nodes.getD j z114) (nodes.getD i z114)) || (parts.getD i 0 == parts.getD j 0)
def bodyOK (nodes : List S114) (parts : List Int) (j : Nat) : Bool := ((nodes.getD j z114).f2.all fun c => rd parts c == c) && allB (pairOK nodes parts j) 0 j
def goodG (nodes : List S114) (parts : List Int) : Bool := ((decide (parts.length = nodes.length) && loose nodes) && okParts parts) && allB (bodyOK nodes parts) 0 nodes.length
theorem specGG_l2 (nodes : List S114) (parts : List Int) (hlen : parts.length = nodes.length) (hn : nodes.length ≤ 120) (j : Nat) (hj : j < nodes.length) (x : S114) (hxj : nodes.getD j z114 = x) (hx : x.f2.length ≤ 3) (d : Nat) : ∀ (k i : Nat), i + d = j → 3 < k →
    spec_GoodGraph.l2 (k + d + 1) (j : Int) (i : Int) nodes (nodes.length : Int) (j : Int) nodes parts x.f0 x.f1 x.f2 = if allB (pairOK nodes parts j) i d = true then spec_GoodGraph.l0 k nodes (nodes.length : Int) ((j + 1 : Nat) : Int) nodes parts else some false := by
  induction d with
  | zero =>
    intro k i hi hk
    simp only [spec_GoodGraph.l2, allB]
    rw [if_neg (by omega), if_pos trivial, w64s j (by omega)]
  | succ d ih =>
    intro k i hi hk
    obtain ⟨K, hK⟩ : ∃ K, K = k + d + 1 := ⟨_, rfl⟩
    rw [show k + (d + 1) + 1 = K + 1 by omega]
    have ihh := ih k (i + 1) (by omega) hk
    rw [← hK] at ihh
    simp only [spec_GoodGraph.l2]
    rw [if_pos (by omega), if_pos (by omega), if_pos (by omega), rdE_getD, specAlike_f x _ (by omega) K (by omega), Option.bind_some, w64s i (by omega), ihh, rd_nat, rd_nat]
    have hp : pairOK nodes parts j i = (!(sameE x (nodes.getD i z114)) || (parts.getD i 0 == parts.getD j 0)) := by unfold pairOK; rw [hxj]
    have hab : allB (pairOK nodes parts j) i (d + 1) = (pairOK nodes parts j i && allB (pairOK nodes parts j) (i + 1) d) := rfl
    rw [hab, hp]
    cases sameE x (nodes.getD i z114) with
    | false => rw [if_neg (by simp)]; simp
    | true =>
      rw [if_pos rfl, if_pos (by omega), if_pos (by omega), if_pos (by omega)]
      by_cases h : parts.getD i 0 = parts.getD j 0
      · rw [if_pos h, beq_iff_eq.2 h]; simp
      · rw [if_neg h, beq_eq_false_iff_ne.2 h]; simp
theorem specGG_l1 (nodes : List S114) (parts : List Int) (j : Nat) (kids : List Int) (hkl : kids.length ≤ 3) (hin : ∀ c ∈ kids, 0 ≤ c ∧ c < (parts.length : Int)) (a b : Int) (d : Nat) : ∀ (k i : Nat), i + d = kids.length →
    spec_GoodGraph.l1 (k + d + 1) (j : Int) nodes (nodes.length : Int) (j : Int) kids (kids.length : Int) (i : Int) nodes parts a b kids = if ((kids.drop i).all fun c => rd parts c == c) = true then spec_GoodGraph.l2 k (j : Int) 0 nodes (nodes.length : Int) (j : Int) nodes parts a b kids else some false := by
  induction d with
  | zero =>
    intro k i hi
    simp only [spec_GoodGraph.l1]
    rw [if_neg (by omega), List.drop_of_length_le (by omega)]
    rfl
  | succ d ih =>
    intro k i hi
    have hil : i < kids.length := by omega
    have hc := hin _ (List.getElem_mem hil)
    obtain ⟨K, hK⟩ : ∃ K, K = k + d + 1 := ⟨_, rfl⟩
    rw [show k + (d + 1) + 1 = K + 1 by omega]
    have ihh := ih k (i + 1) (by omega)
    rw [← hK] at ihh
    simp only [spec_GoodGraph.l1]
    rw [if_pos (by omega), if_pos (by omega), if_pos (by omega), rd_nat, getD_lt kids i hil, if_pos hc.1, if_pos hc.2, w64s i (by omega), ihh, List.drop_eq_getElem_cons hil, List.all_cons]
    by_cases h : rd parts kids[i] = kids[i]
    · rw [if_pos h, beq_iff_eq.2 h, Bool.true_and]
    · rw [if_neg h, beq_eq_false_iff_ne.2 h, Bool.false_and]; rfl
theorem specGG_l0 (nodes : List S114) (parts : List Int) (hlen : parts.length = nodes.length) (hlo : loose nodes = true) (d : Nat) : ∀ (k i : Nat), i + d = nodes.length → 140 * d + 140 ≤ k →
    spec_GoodGraph.l0 k nodes (nodes.length : Int) (i : Int) nodes parts = some (allB (bodyOK nodes parts) i d) := by
  have hn := loose_len hlo
  induction d with
  | zero =>
    intro k i hi hk
    obtain ⟨k, rfl⟩ : ∃ m, k = m + 1 := ⟨k - 1, by omega⟩
    simp only [spec_GoodGraph.l0, allB]
    rw [if_neg (by omega)]
  | succ d ih =>
    intro k i hi hk
    have hil : i < nodes.length := by omega
    have hx := enOK_kids (loose_at hlo i hil)
    obtain ⟨x, hxe⟩ : ∃ x, nodes.getD i z114 = x := ⟨_, rfl⟩
    rw [hxe] at hx
    obtain ⟨k, rfl⟩ : ∃ m, k = ((m + i + 1) + x.f2.length + 1) + 1 := ⟨k - i - x.f2.length - 3, by omega⟩
    simp only [spec_GoodGraph.l0, allB]
    have h2 := specGG_l2 nodes parts hlen hn i hil x hxe hx.1 i k 0 (by omega) (by omega)
    rw [if_pos (by omega), if_pos (by omega), if_pos (by omega), rdE_getD, hxe]
    have h1 := specGG_l1 nodes parts i x.f2 hx.1 (fun c hc => by have := hx.2 c hc; omega) x.f0 x.f1 x.f2.length (k + i + 1) 0 (by omega)
    rw [List.drop_zero] at h1
    refine h1.trans ?_
    have hb : bodyOK nodes parts i = ((x.f2.all fun c => rd parts c == c) && allB (pairOK nodes parts i) 0 i) := by unfold bodyOK; rw [hxe]
    rw [hb]
    cases (x.f2.all fun c => rd parts c == c) with
    | false => rfl
    | true =>
      rw [if_pos rfl, Bool.true_and]
      refine h2.trans ?_
      cases allB (pairOK nodes parts i) 0 i with
      | false => rfl
      | true => rw [if_pos rfl, Bool.true_and]; exact ih k (i + 1) (by omega) (by omega)
theorem specGG_f (nodes : List S114) (parts : List Int) (hl : nodes.length ≤ 1048576) (hin : ∀ x ∈ nodes, x.f2.length ≤ 1048576) (hp : parts.length ≤ 1048576) (k : Nat) (hk : 2097161 < k) : spec_GoodGraph.f k nodes parts = some (goodG nodes parts) := by
  obtain ⟨k, rfl⟩ : ∃ m, k = m + 1 := ⟨k - 1, by omega⟩
  unfold spec_GoodGraph.f goodG
  rw [l6Nodes_f nodes hl hin (k + 1) (by omega), Option.bind_some]
  cases hlo : loose nodes with
  | false =>
    rw [if_neg (by simp), Bool.and_false, Bool.false_and, Bool.false_and]
    simp [spec_GoodGraph.j0]
  | true =>
    rw [if_pos rfl, Bool.and_true]
    by_cases hlen : parts.length = nodes.length
    · rw [if_pos (by omega), decide_eq_true hlen, Bool.true_and, spec_GoodParts_f parts (k + 1) (by omega), Option.bind_some]
      simp only [spec_GoodGraph.j0]
      cases okParts parts with
      | false => rfl
      | true =>
        have hn := loose_len hlo
        rw [if_neg (by simp), Bool.true_and]
        exact specGG_l0 nodes parts hlen hlo nodes.length k 0 (by omega) (by omega)
    · rw [if_neg (by omega), decide_eq_false hlen, Bool.false_and, Bool.false_and]
      simp [spec_GoodGraph.j0]
theorem VGG_f (kids parts : List Int) (hin : ∀ c ∈ kids, 0 ≤ c ∧ c < (parts.length : Int)) : VGG.f kids parts = some (!(kids.all fun c => rd parts c == c)) := by
  unfold VGG.f
  rw [if_pos (List.all_eq_true.2 fun c hc => decide_eq_true (hin c hc))]
  congr 1
  clear hin
  induction kids with
  | nil => rfl
  | cons c t ih => rw [List.any_cons, List.all_cons, ih, Bool.not_and]; rfl
theorem implGG_l1 (nodes : List S114) (parts : List Int) (hlen : parts.length = nodes.length) (hn : nodes.length ≤ 120) (j : Nat) (hj : j < nodes.length) (x : S114) (hxj : nodes.getD j z114 = x) (hx : x.f2.length ≤ 3) (d : Nat) : ∀ (k i : Nat), i + d = j → 3 < k →
    impl_GoodGraph.l1 (k + d + 1) (j : Int) nodes (nodes.length : Int) (j : Int) (nodes.take j) ((nodes.take j).length : Int) (i : Int) nodes parts x.f0 x.f1 x.f2 = if allB (pairOK nodes parts j) i d = true then impl_GoodGraph.l0 k nodes (nodes.length : Int) ((j + 1 : Nat) : Int) nodes parts else some false := by
  have htl : (nodes.take j).length = j := by rw [List.length_take]; omega
  induction d with
  | zero =>
    intro k i hi hk
    simp only [impl_GoodGraph.l1, allB]
    rw [if_neg (by omega), if_pos trivial, w64s j (by omega)]
  | succ d ih =>
    intro k i hi hk
    obtain ⟨K, hK⟩ : ∃ K, K = k + d + 1 := ⟨_, rfl⟩
    rw [show k + (d + 1) + 1 = K + 1 by omega]
    have ihh := ih k (i + 1) (by omega) hk
    rw [← hK] at ihh
    have htk : (nodes.take j).getD i z114 = nodes.getD i z114 := by
      rw [List.getD_eq_getElem?_getD, List.getD_eq_getElem?_getD, List.getElem?_take, if_pos (by omega)]
    simp only [impl_GoodGraph.l1]
    rw [if_pos (by omega), if_pos (by omega), if_pos (by omega), if_pos (by omega), if_pos (by omega), if_pos (by omega), rdE_getD, htk, implAlike_f x _ (by omega) K (by omega), Option.bind_some, w64s i (by omega), ihh, rd_nat, rd_nat]
    have hp : pairOK nodes parts j i = (!(sameE x (nodes.getD i z114)) || (parts.getD i 0 == parts.getD j 0)) := by unfold pairOK; rw [hxj]
    have hab : allB (pairOK nodes parts j) i (d + 1) = (pairOK nodes parts j i && allB (pairOK nodes parts j) (i + 1) d) := rfl
    rw [hab, hp]
    by_cases h : parts.getD i 0 = parts.getD j 0
    · rw [if_pos h, beq_iff_eq.2 h]; simp
    · rw [if_neg h, beq_eq_false_iff_ne.2 h]
      cases sameE x (nodes.getD i z114) <;> simp
theorem implGG_l0 (nodes : List S114) (parts : List Int) (hlen : parts.length = nodes.length) (hlo : loose nodes = true) (d : Nat) : ∀ (k i : Nat), i + d = nodes.length → 140 * d + 140 ≤ k →
    impl_GoodGraph.l0 k nodes (nodes.length : Int) (i : Int) nodes parts = some (allB (bodyOK nodes parts) i d) := by
  have hn := loose_len hlo
  induction d with
  | zero =>
    intro k i hi hk
    obtain ⟨k, rfl⟩ : ∃ m, k = m + 1 := ⟨k - 1, by omega⟩
    simp only [impl_GoodGraph.l0, allB]
    rw [if_neg (by omega)]
  | succ d ih =>
    intro k i hi hk
    have hil : i < nodes.length := by omega
    have hx := enOK_kids (loose_at hlo i hil)
    obtain ⟨x, hxe⟩ : ∃ x, nodes.getD i z114 = x := ⟨_, rfl⟩
    rw [hxe] at hx
    obtain ⟨k, rfl⟩ : ∃ m, k = (m + i + 1) + 1 := ⟨k - i - 2, by omega⟩
    simp only [impl_GoodGraph.l0, allB]
    have h2 := implGG_l1 nodes parts hlen hn i hil x hxe hx.1 i k 0 (by omega) (by omega)
    rw [if_pos (by omega), if_pos (by omega), if_pos (by omega), rdE_getD, hxe, VGG_f x.f2 parts (fun c hc => by have := hx.2 c hc; omega), Option.bind_some]
    have hb : bodyOK nodes parts i = ((x.f2.all fun c => rd parts c == c) && allB (pairOK nodes parts i) 0 i) := by unfold bodyOK; rw [hxe]
    rw [hb]
    cases (x.f2.all fun c => rd parts c == c) with
    | false => rfl
    | true =>
      rw [if_neg (by simp), if_pos (by omega), Option.bind_some, Bool.true_and, Int.toNat_natCast]
      refine h2.trans ?_
      cases allB (pairOK nodes parts i) 0 i with
      | false => rfl
      | true => rw [if_pos rfl, Bool.true_and]; exact ih k (i + 1) (by omega) (by omega)
theorem implGG_f (nodes : List S114) (parts : List Int) (hl : nodes.length ≤ 1048576) (hp : parts.length ≤ 1048576) (k : Nat) (hk : 2097161 < k) : impl_GoodGraph.f k nodes parts = some (goodG nodes parts) := by
  obtain ⟨k, rfl⟩ : ∃ m, k = m + 1 := ⟨k - 1, by omega⟩
  unfold impl_GoodGraph.f goodG
  by_cases hlen : parts.length = nodes.length
  · rw [if_pos (by omega), decide_eq_true hlen, Bool.true_and, looseOK_f nodes hl (k + 1) (by omega), Option.bind_some]
    cases hlo : loose nodes with
    | false =>
      rw [if_neg (by simp), Bool.false_and, Bool.false_and]
      simp [impl_GoodGraph.j0]
    | true =>
      rw [if_pos rfl, Bool.true_and, impl_GoodParts_f parts (by omega) (k + 1) (by omega), Option.bind_some]
      simp only [impl_GoodGraph.j0]
      cases okParts parts with
      | false => rfl
      | true =>
        have hn := loose_len hlo
        rw [if_neg (by simp), Bool.true_and]
        exact implGG_l0 nodes parts hlen hlo nodes.length k 0 (by omega) (by omega)
  · rw [if_neg (by omega), decide_eq_false hlen, Bool.false_and, Bool.false_and, Bool.false_and]
    simp [impl_GoodGraph.j0]

theorem enW_cv (n : List S130) (hn : n.length ≤ 1048576) (hs : (n.map fun x => x.f2.length).sum ≤ 1048576) : enW (n.map cvE) ≤ 3145728 := by
  have h : enW (n.map cvE) = (n.map fun x => x.f2.length).sum + 2 * n.length := by
    clear hn hs
    unfold enW
    induction n with
    | nil => rfl
    | cons x t ih =>
      simp only [List.map_cons, List.sum_cons, List.length_cons] at ih ⊢
      rw [ih]
      show x.f2.length + 2 + _ = _
      omega
  omega

theorem members_run (l : List Int) (hn : l.length ≤ 200) (a : Nat) (ha : a < l.length) (d : Nat) : ∀ (k i : Nat) (x : List Int), i + d = l.length → x.length ≤ i → d < k →
    ∃ r : List Int, r.length ≤ 200 ∧ spec_l5Members.l0 k l (a : Int) x l (l.length : Int) (i : Int) = some r ∧ impl_members.l0 k (rd l (a : Int)) x l (l.length : Int) (i : Int) = some r := by
  induction d with
  | zero =>
    intro k i x hi hx hk
    obtain ⟨k, rfl⟩ : ∃ m, k = m + 1 := ⟨k - 1, by omega⟩
    simp only [spec_l5Members.l0, impl_members.l0]
    rw [if_neg (by omega), if_neg (by omega)]
    exact ⟨x, by omega, rfl, rfl⟩
  | succ d ih =>
    intro k i x hi hx hk
    obtain ⟨k, rfl⟩ : ∃ m, k = m + 1 := ⟨k - 1, by omega⟩
    simp only [spec_l5Members.l0, impl_members.l0]
    have c1 : (i : Int) < (l.length : Int) := by omega
    have c2 : (a : Int) < (l.length : Int) := by omega
    have c3 : 0 ≤ (i : Int) := by omega
    have c4 : 0 ≤ (a : Int) := by omega
    have c5 : x.length < 17592186044416 := by omega
    simp only [if_pos c1, if_pos c2, if_pos c3, if_pos c4, if_pos c5, w64s i (by omega)]
    by_cases e : rd l (i : Int) = rd l (a : Int)
    · simp only [if_pos e]; exact ih k (i + 1) _ (by omega) (by simp; omega) (by omega)
    · simp only [if_neg e]; exact ih k (i + 1) _ (by omega) (by omega) (by omega)
theorem goodG_len {n : List S114} {p : List Int} (h : goodG n p = true) : p.length = n.length ∧ n.length ≤ 120 := by
  unfold goodG at h
  simp only [Bool.and_eq_true, decide_eq_true_eq] at h
  exact ⟨h.1.1.1, loose_len h.1.1.2⟩
theorem nodes_key (n : List S114) (p : List Int) (hn : n.length ≤ 1048576) (hin : ∀ x ∈ n, x.f2.length ≤ 1048576) (hp : p.length ≤ 1048576) (a : Int) (k : Nat) (hk : 2097161 < k) : ∃ r : List Int × Bool, r.1.length ≤ 1048576 ∧ spec_NodesIn.f k n p a = some r ∧ impl_NodesIn.f k n p a = some r := by
  unfold spec_NodesIn.f impl_NodesIn.f
  rw [specGG_f n p hn hin hp k hk, implGG_f n p hn hp k hk]
  simp only [Option.bind_some]
  cases hg : goodG n p with
  | false => exact ⟨([], false), by simp, rfl, rfl⟩
  | true =>
    obtain ⟨e1, e2⟩ := goodG_len hg
    unfold impl_within.f spec_l1In.f
    rw [w64 ((n.length : Int) - 1) (by omega) (by omega)]
    simp only [if_true]
    by_cases h0 : a ≥ 0
    · by_cases h1 : a ≤ (n.length : Int) - 1
      · obtain ⟨m, rfl⟩ := Int.eq_ofNat_of_zero_le h0
        obtain ⟨r, hr, r1, r2⟩ := members_run p (by omega) m (by omega) p.length k 0 [] (by omega) (by simp) (by omega)
        refine ⟨(r, true), by simp only; omega, ?_⟩
        simp only [if_pos h0, decide_eq_true h1, Option.bind_some, if_true, if_pos (show 0 ≤ (m : Int) by omega), if_pos (show (m : Int) < (p.length : Int) by omega)]
        unfold spec_l5Members.f impl_members.f
        constructor
        · rw [show spec_l5Members.l0 k p (m : Int) [] p (p.length : Int) 0 = some r from r1]; rfl
        · rw [show impl_members.l0 k (rd p (m : Int)) [] p (p.length : Int) 0 = some r from r2]; rfl
      · refine ⟨([], false), by simp, ?_⟩
        simp only [if_pos h0, decide_eq_false h1, Option.bind_some]
        exact ⟨rfl, rfl⟩
    · refine ⟨([], false), by simp, ?_⟩
      simp only [if_neg h0, Option.bind_some]
      exact ⟨rfl, rfl⟩
theorem FnExactNodesIn : RdFnExactNodesIn.Pure := by
  rintro ⟨n, p⟩ a ⟨hn, hp⟩ hl hl2 _
  simp only at hn hp hl hl2 ⊢
  refine ⟨100000000, ?_⟩
  unfold laws_FnExactNodesIn.f
  obtain ⟨t, ht, hh⟩ := szG_f n p 1048576 (by omega) (by omega) hl (fun x hx => (hn.2 x hx).2.2.1) hl2 100000000 (by omega)
  rw [ht, Option.bind_some]
  by_cases h : t < 0
  · rw [if_pos h]
  · obtain ⟨_, _, h1, h2, h3, h4⟩ := hh.resolve_left h
    have hlen : (n.map cvE).length = n.length := List.length_map _
    have hW := enW_cv n h1 h4
    have hto := toG_f n p h1 h2 h3 100000000 (by omega)
    have hin := cvE_len n h2
    obtain ⟨r, hr, hs, hi⟩ := nodes_key (n.map cvE) p (by omega) hin h3 a 100000000 (by omega)
    have hq := eqG_f (n.map cvE) p (by omega) hin h3 100000000 (by omega)
    have he := laws_eqIntS_f r.1 (by omega) 100000000 (by omega)
    have hm := laws_markIntS_f r.1 (by omega) 100000000 (by omega)
    have hd := laws_heldIntS_f r.1.length (by omega) 100000000 (by omega)
    generalize n.map cvE = L at *
    simp only [if_neg h, hto, hs, hi, hq, he, hm, hd, Option.bind_some]
    exact if_pos ⟨⟨trivial, trivial, trivial⟩, by omega, by omega, by omega, trivial⟩

end Go.Proofs.Ytakblgcheakbnaa.Pure
