/- The program's MeetParts and the reference's answer alike at every two lists; no condition. -/
import Derived.Test.YtcckpcgmpmlioaaPFnExactMeetPartsx4
import Derived.Test.YtcckpcgmpmlioaaWSized
set_option linter.unusedVariables false
set_option linter.unusedSimpArgs false
namespace Go.Proofs.Ytcckpcgmpmlioaa.Pure
open Go.RowKit Go.Proofs.Ytcckpcgmpmlioaa.PFnExactMeetParts Go.Proofs.YtcckpcgmpmlioaaW.PrintWords Go.Proofs.YtcckpcgmpmlioaaW.PrintLast Go.Proofs.YtcckpcgmpmlioaaW.PrintMore

theorem w64 (x : Int) (h0 : -9223372036854775808 ≤ x) (h1 : x ≤ 9223372036854775807) : wrap64 x = x := by unfold wrap64; omega
theorem w64s (i : Nat) (h : i ≤ 140737488355328) : wrap64 ((i : Int) + 1) = ((i + 1 : Nat) : Int) := by rw [w64 _ (by omega) (by omega)]; omega
theorem rd_nat (l : List Int) (i : Nat) : rd l (i : Int) = l.getD i 0 := by simp [rd]
theorem getD_lt (l : List Int) (i : Nat) (h : i < l.length) : l.getD i 0 = l[i] := by simp [List.getD_eq_getElem?_getD, h]

theorem laws_toIntS_run (x0 : List Int) (hn : x0.length ≤ 140737488351232) (d : Nat) : ∀ (k i : Nat) (x3 : List Int), i + d = x0.length → x3.length = x0.length → (∀ j, j < i → x3[j]? = x0[j]?) → d < k →
    laws_toIntS.l0 k x0 x3 (i : Int) = some x0 := by
  induction d with
  | zero =>
    intro k i x3 hi hl hj hk
    obtain ⟨k, rfl⟩ : ∃ m, k = m + 1 := ⟨k - 1, by omega⟩
    simp only [laws_toIntS.l0]
    rw [if_neg (by omega)]
    congr 1
    apply List.ext_getElem?
    intro j
    by_cases h : j < i
    · exact hj j h
    · rw [List.getElem?_eq_none (by omega), List.getElem?_eq_none (by omega)]
  | succ d ih =>
    intro k i x3 hi hl hj hk
    obtain ⟨k, rfl⟩ : ∃ m, k = m + 1 := ⟨k - 1, by omega⟩
    simp only [laws_toIntS.l0]
    rw [if_pos (by omega), if_pos (by omega), if_pos (by omega), w64s i (by omega)]
    refine ih k (i + 1) _ (by omega) (by simpa using hl) ?_ (by omega)
    intro j hji
    rw [Int.toNat_natCast, rd_nat, List.getElem?_set]
    by_cases h : i = j
    · subst h
      rw [if_pos rfl, if_pos (by omega), getD_lt _ _ (by omega), List.getElem?_eq_getElem (by omega)]
    · rw [if_neg h]
      exact hj j (by omega)
theorem laws_toIntS_f (l : List Int) (hn : l.length ≤ 1048576) (k : Nat) (hk : l.length < k) : laws_toIntS.f k l = some l := by
  unfold laws_toIntS.f
  rw [if_pos (by omega), if_pos (by omega)]
  exact laws_toIntS_run l (by omega) l.length k 0 _ (by omega) (by simp) (fun j hj => by omega) hk

theorem laws_eqIntS_run (x0 : List Int) (hn : x0.length ≤ 140737488351232) (d : Nat) : ∀ (k i : Nat), i + d = x0.length → d < k → laws_eqIntS.l0 k x0 x0 (i : Int) = some true := by
  induction d with
  | zero =>
    intro k i hi hk
    obtain ⟨k, rfl⟩ : ∃ m, k = m + 1 := ⟨k - 1, by omega⟩
    simp only [laws_eqIntS.l0]
    rw [if_neg (by omega)]
  | succ d ih =>
    intro k i hi hk
    obtain ⟨k, rfl⟩ : ∃ m, k = m + 1 := ⟨k - 1, by omega⟩
    simp only [laws_eqIntS.l0]
    rw [if_pos (by omega), if_pos (by omega), if_pos (by omega), if_pos trivial, w64s i (by omega)]
    exact ih k (i + 1) (by omega) (by omega)
theorem laws_eqIntS_f (l : List Int) (hn : l.length ≤ 140737488351232) (k : Nat) (hk : l.length < k) : laws_eqIntS.f k l l = some true := by
  unfold laws_eqIntS.f
  rw [if_pos rfl]
  exact laws_eqIntS_run l hn l.length k 0 (by omega) hk

/-- Parts: each number's is at most itself, and its own. -/
def goodAt (l : List Int) (i : Nat) : Prop := 0 ≤ l.getD i 0 ∧ l.getD i 0 ≤ (i : Int) ∧ l.getD (l.getD i 0).toNat 0 = l.getD i 0
instance (l : List Int) (i : Nat) : Decidable (goodAt l i) := by unfold goodAt; infer_instance
def okParts (l : List Int) : Bool := decide ((∀ i : Nat, i < l.length → goodAt l i) ∧ l.length ≤ 200)
theorem rd_int (l : List Int) (x : Int) : rd l x = l.getD x.toNat 0 := rfl
theorem spec_GoodParts_run (x0 : List Int) (hn : x0.length ≤ 200) (d : Nat) : ∀ (k i : Nat), i + d = x0.length → (∀ j : Nat, j < i → goodAt x0 j) → d < k →
    spec_GoodParts.l0 k x0 x0 (x0.length : Int) (i : Int) = some (okParts x0) := by
  induction d with
  | zero =>
    intro k i hi hj hk
    obtain ⟨k, rfl⟩ : ∃ m, k = m + 1 := ⟨k - 1, by omega⟩
    simp only [spec_GoodParts.l0]
    rw [if_neg (by omega)]
    congr 1
    symm
    exact decide_eq_true ⟨fun j hj' => hj j (by omega), hn⟩
  | succ d ih =>
    intro k i hi hj hk
    obtain ⟨k, rfl⟩ : ∃ m, k = m + 1 := ⟨k - 1, by omega⟩
    simp only [spec_GoodParts.l0]
    rw [if_pos (by omega), if_pos (by omega), if_pos (by omega), rd_nat]
    unfold spec_l1In.f
    by_cases h0 : x0.getD i 0 ≥ 0
    · rw [if_pos h0]
      by_cases h1 : x0.getD i 0 ≤ (i : Int)
      · rw [decide_eq_true h1, Option.bind_some, if_pos rfl, if_pos (by omega), if_pos (by omega), w64s i (by omega), rd_int]
        by_cases h2 : x0.getD (x0.getD i 0).toNat 0 = x0.getD i 0
        · rw [if_pos h2]
          exact ih k (i + 1) (by omega) (fun j hj' => by
            by_cases e : j = i
            · subst e; exact ⟨h0, h1, h2⟩
            · exact hj j (by omega)) (by omega)
        · rw [if_neg h2]
          congr 1
          symm
          exact decide_eq_false (fun h => h2 (h.1 i (by omega)).2.2)
      · rw [decide_eq_false h1, Option.bind_some, if_neg (by simp)]
        congr 1
        symm
        exact decide_eq_false (fun h => h1 (h.1 i (by omega)).2.1)
    · rw [if_neg h0, Option.bind_some, if_neg (by simp)]
      congr 1
      symm
      exact decide_eq_false (fun h => h0 (h.1 i (by omega)).1)
theorem spec_GoodParts_f (l : List Int) (k : Nat) (hk : l.length < k) : spec_GoodParts.f k l = some (okParts l) := by
  unfold spec_GoodParts.f
  by_cases h : (l.length : Int) > 200
  · rw [if_pos h]
    congr 1
    symm
    exact decide_eq_false (fun h' => by have := h'.2; omega)
  · rw [if_neg h]
    exact spec_GoodParts_run l (by omega) l.length k 0 (by omega) (fun j hj => by omega) hk
/-- Parents, as the program asks first. -/
def okPar (l : List Int) : Bool := decide ((∀ i : Nat, i < l.length → 0 ≤ l.getD i 0 ∧ l.getD i 0 ≤ (i : Int)) ∧ l.length ≤ 200)
theorem impl_parentsOK_run (x0 : List Int) (hn : x0.length ≤ 140737488351232) (d : Nat) : ∀ (k i : Nat), i + d = x0.length → (∀ j : Nat, j < i → 0 ≤ x0.getD j 0 ∧ x0.getD j 0 ≤ (j : Int)) → d < k →
    impl_parentsOK.l0 k x0 x0 (x0.length : Int) (i : Int) = some (okPar x0) := by
  induction d with
  | zero =>
    intro k i hi hj hk
    obtain ⟨k, rfl⟩ : ∃ m, k = m + 1 := ⟨k - 1, by omega⟩
    simp only [impl_parentsOK.l0]
    rw [if_neg (by omega)]
    congr 1
    unfold okPar
    rw [decide_eq_decide]
    constructor
    · intro h; exact ⟨fun j hj' => hj j (by omega), by omega⟩
    · intro h; have := h.2; omega
  | succ d ih =>
    intro k i hi hj hk
    obtain ⟨k, rfl⟩ : ∃ m, k = m + 1 := ⟨k - 1, by omega⟩
    simp only [impl_parentsOK.l0]
    rw [if_pos (by omega), if_pos (by omega), if_pos (by omega), rd_nat]
    unfold impl_within.f
    by_cases h0 : x0.getD i 0 ≥ 0
    · rw [if_pos h0]
      by_cases h1 : x0.getD i 0 ≤ (i : Int)
      · rw [decide_eq_true h1, Option.bind_some, if_pos rfl, w64s i (by omega)]
        exact ih k (i + 1) (by omega) (fun j hj' => by
          by_cases e : j = i
          · subst e; exact ⟨h0, h1⟩
          · exact hj j (by omega)) (by omega)
      · rw [decide_eq_false h1, Option.bind_some, if_neg (by simp)]
        congr 1
        symm
        exact decide_eq_false (fun h => h1 (h.1 i (by omega)).2)
    · rw [if_neg h0, Option.bind_some, if_neg (by simp)]
      congr 1
      symm
      exact decide_eq_false (fun h => h0 (h.1 i (by omega)).1)
theorem impl_parentsOK_f (l : List Int) (hn : l.length ≤ 140737488351232) (k : Nat) (hk : l.length < k) : impl_parentsOK.f k l = some (okPar l) :=
  impl_parentsOK_run l hn l.length k 0 (by omega) (fun j hj => by omega) hk
theorem impl_GoodParts_f (l : List Int) (hn : l.length ≤ 140737488351232) (k : Nat) (hk : l.length < k) : impl_GoodParts.f k l = some (okParts l) := by
  unfold impl_GoodParts.f
  rw [impl_parentsOK_f l hn k hk, Option.bind_some]
  cases hp : okPar l with
  | false =>
    rw [if_neg (by simp)]
    congr 1
    symm
    exact decide_eq_false (fun h => by
      have : okPar l = true := decide_eq_true ⟨fun i hi => ⟨(h.1 i hi).1, (h.1 i hi).2.1⟩, h.2⟩
      rw [hp] at this; cases this)
  | true =>
    have hp' := of_decide_eq_true hp
    rw [if_pos rfl]
    congr 1
    rw [Bool.eq_iff_iff]
    simp only [Bool.not_eq_true', List.any_eq_false, okParts, decide_eq_true_eq]
    constructor
    · intro h
      refine ⟨fun i hi => ⟨(hp'.1 i hi).1, (hp'.1 i hi).2, ?_⟩, hp'.2⟩
      have := h l[i] (List.getElem_mem hi)
      rw [getD_lt _ _ hi]
      simpa [rd_int] using this
    · intro h x hx
      obtain ⟨i, hi, rfl⟩ := List.getElem_of_mem hx
      have := (h.1 i hi).2.2
      rw [getD_lt _ _ hi] at this
      simpa [rd_int] using this

/-- What markIntS writes: numbers from one on. -/
def marked (xs : List Int) (m : Int) : List Int := (List.range xs.length).map fun j : Nat => m + (j : Int)
theorem laws_markIntS_run (n : Nat) (hn : n ≤ 140737480000000) (m0 : Nat) (hm0 : m0 ≤ 3000000) (d : Nat) : ∀ (k i : Nat) (x : List Int), i + d = n → x.length = n → (∀ j, j < i → x[j]? = some ((m0 : Int) + (j : Int))) → d < k →
    laws_markIntS.l0 k x (((m0 + i : Nat)) : Int) (i : Int) = some (((m0 + n : Nat) : Int), (List.range n).map fun j : Nat => ((m0 : Int) + (j : Int))) := by
  induction d with
  | zero =>
    intro k i x hi hl hj hk
    obtain ⟨k, rfl⟩ : ∃ m, k = m + 1 := ⟨k - 1, by omega⟩
    simp only [laws_markIntS.l0]
    rw [if_neg (by omega)]
    have e : i = n := by omega
    subst e
    congr 2
    apply List.ext_getElem?
    intro j
    by_cases h : j < i
    · rw [hj j h, List.getElem?_map, List.getElem?_range h]; rfl
    · rw [List.getElem?_eq_none (by omega), List.getElem?_eq_none (by simp; omega)]
  | succ d ih =>
    intro k i x hi hl hj hk
    obtain ⟨k, rfl⟩ : ∃ m, k = m + 1 := ⟨k - 1, by omega⟩
    simp only [laws_markIntS.l0]
    rw [if_pos (by omega), if_pos (by omega), w64s i (by omega), w64s (m0 + i) (by omega)]
    refine ih k (i + 1) _ (by omega) (by simpa using hl) ?_ (by omega)
    intro j hji
    rw [Int.toNat_natCast, List.getElem?_set]
    by_cases h : i = j
    · subst h
      rw [if_pos rfl, if_pos (by omega)]
      congr 1
    · rw [if_neg h]
      exact hj j (by omega)
theorem laws_heldIntS_run (n : Nat) (hn : n ≤ 140737480000000) (m0 : Nat) (hm0 : m0 ≤ 3000000) (d : Nat) : ∀ (k i : Nat), i + d = n → d < k →
    laws_heldIntS.l0 k ((List.range n).map fun j : Nat => ((m0 : Int) + (j : Int))) (((m0 + i : Nat)) : Int) (i : Int) = some (((m0 + n : Nat) : Int)) := by
  induction d with
  | zero =>
    intro k i hi hk
    obtain ⟨k, rfl⟩ : ∃ m, k = m + 1 := ⟨k - 1, by omega⟩
    simp only [laws_heldIntS.l0]
    rw [if_neg (by simp; omega)]
    congr 2
    omega
  | succ d ih =>
    intro k i hi hk
    obtain ⟨k, rfl⟩ : ∃ m, k = m + 1 := ⟨k - 1, by omega⟩
    simp only [laws_heldIntS.l0]
    have hr : rd ((List.range n).map fun j : Nat => ((m0 : Int) + (j : Int))) (i : Int) = ((m0 + i : Nat) : Int) := by
      rw [rd_nat, getD_lt _ _ (by simp; omega)]
      simp
    rw [if_pos (by simp; omega), if_pos (by omega), hr, if_pos rfl, w64s i (by omega), w64s (m0 + i) (by omega)]
    exact ih k (i + 1) (by omega) (by omega)
theorem laws_markIntS_f (x : List Int) (hn : x.length ≤ 140737480000000) (k : Nat) (hk : x.length < k) : laws_markIntS.f k x 1 = some (((1 + x.length : Nat) : Int), (List.range x.length).map fun j : Nat => ((1 : Nat) : Int) + (j : Int)) :=
  laws_markIntS_run x.length hn 1 (by omega) x.length k 0 x (by omega) rfl (fun j hj => by omega) hk
theorem laws_heldIntS_f (n : Nat) (hn : n ≤ 140737480000000) (k : Nat) (hk : n < k) : laws_heldIntS.f k ((List.range n).map fun j : Nat => ((1 : Nat) : Int) + (j : Int)) 1 = some (((1 + n : Nat) : Int)) :=
  laws_heldIntS_run n hn 1 (by omega) n k 0 (by omega) hk
theorem laws_markIntS_g (x : List Int) (hn : x.length ≤ 140737480000000) (m0 : Nat) (hm0 : m0 ≤ 3000000) (k : Nat) (hk : x.length < k) : laws_markIntS.f k x (m0 : Int) = some (((m0 + x.length : Nat) : Int), (List.range x.length).map fun j : Nat => (m0 : Int) + (j : Int)) :=
  laws_markIntS_run x.length hn m0 hm0 x.length k 0 x (by omega) rfl (fun j hj => by omega) hk

/-- Is number i of one part with number k, in both. -/
def bothAt (a b : List Int) (k i : Nat) : Prop := a.getD i 0 = a.getD k 0 ∧ b.getD i 0 = b.getD k 0
instance (a b : List Int) (k i : Nat) : Decidable (bothAt a b k i) := by unfold bothAt; infer_instance
/-- The least number so, from a number down. -/
def scan (a b : List Int) (k : Nat) : Nat → Int → Int
  | 0, t => t
  | d + 1, t => scan a b k d (if bothAt a b k d then (d : Int) else t)
theorem w64p (i : Nat) (h : i ≤ 1048576) : wrap64 ((i : Int) - 1) = (i : Int) - 1 := w64 _ (by omega) (by omega)
theorem spec_inner (a b : List Int) (hb : b.length = a.length) (hn : a.length ≤ 200) (k : Nat) (hk : k < a.length) (K : Nat) (acc : List Int) (hacc : acc.length ≤ 200) : ∀ (d : Nat), d ≤ k + 1 → ∀ t : Int,
    spec_MeetParts.l1 (K + d + 1) a b acc (k : Int) t ((d : Int) - 1) (a.length : Int) (k : Int) = spec_MeetParts.l0 K a b (acc ++ [scan a b k d t]) (a.length : Int) ((k + 1 : Nat) : Int) := by
  intro d
  induction d with
  | zero =>
    intro _ t
    show spec_MeetParts.l1 (K + 1) a b acc (k : Int) t _ (a.length : Int) (k : Int) = _
    rw [spec_MeetParts.l1]
    rw [if_neg (by omega), if_pos (by omega), w64s k (by omega)]
    rfl
  | succ d ih =>
    intro hd t
    show spec_MeetParts.l1 ((K + d + 1) + 1) a b acc (k : Int) t _ (a.length : Int) (k : Int) = _
    have e0 : ((d + 1 : Nat) : Int) - 1 = (d : Int) := by omega
    rw [e0]
    rw [spec_MeetParts.l1]
    have c1 : (d : Int) < (a.length : Int) := by omega
    have c2 : (k : Int) < (a.length : Int) := by omega
    have c3 : (d : Int) < (b.length : Int) := by omega
    have c4 : (k : Int) < (b.length : Int) := by omega
    have c5 : (d : Int) ≥ 0 := by omega
    have c6 : 0 ≤ (d : Int) := by omega
    have c7 : 0 ≤ (k : Int) := by omega
    simp only [if_pos c1, if_pos c2, if_pos c3, if_pos c4, if_pos c5, if_pos c6, if_pos c7, rd_nat, w64p d (by omega)]
    by_cases h1 : a.getD d 0 = a.getD k 0
    · rw [if_pos h1]
      by_cases h2 : b.getD d 0 = b.getD k 0
      · rw [if_pos h2, ih (by omega), scan, if_pos ⟨h1, h2⟩]
      · rw [if_neg h2, ih (by omega), scan, if_neg (fun h => h2 h.2)]
    · rw [if_neg h1, ih (by omega), scan, if_neg (fun h => h1 h.1)]
theorem impl_inner (a b : List Int) (hb : b.length = a.length) (hn : a.length ≤ 200) (k : Nat) (hk : k < a.length) (K : Nat) : ∀ (d : Nat), d ≤ k + 1 → ∀ x : List Int, x.length = a.length →
    impl_MeetParts.l1 (K + d + 1) a b x (k : Int) ((d : Int) - 1) (a.length : Int) (k : Int) = impl_MeetParts.l0 K a b (x.set k (scan a b k d (x.getD k 0))) (a.length : Int) ((k + 1 : Nat) : Int) := by
  intro d
  induction d with
  | zero =>
    intro _ x hx
    show impl_MeetParts.l1 (K + 1) a b x (k : Int) _ (a.length : Int) (k : Int) = _
    rw [impl_MeetParts.l1]
    rw [if_neg (by omega), w64s k (by omega), scan, getD_lt _ _ (by omega), List.set_getElem_self]
  | succ d ih =>
    intro hd x hx
    show impl_MeetParts.l1 ((K + d + 1) + 1) a b x (k : Int) _ (a.length : Int) (k : Int) = _
    have e0 : ((d + 1 : Nat) : Int) - 1 = (d : Int) := by omega
    rw [e0]
    rw [impl_MeetParts.l1]
    have c1 : (d : Int) < (a.length : Int) := by omega
    have c2 : (k : Int) < (a.length : Int) := by omega
    have c3 : (d : Int) < (b.length : Int) := by omega
    have c4 : (k : Int) < (b.length : Int) := by omega
    have c5 : (d : Int) ≥ 0 := by omega
    have c6 : 0 ≤ (d : Int) := by omega
    have c7 : 0 ≤ (k : Int) := by omega
    have c8 : (k : Int) < (x.length : Int) := by omega
    simp only [if_pos c1, if_pos c2, if_pos c3, if_pos c4, if_pos c5, if_pos c6, if_pos c7, if_pos c8, rd_nat, w64p d (by omega), Int.toNat_natCast]
    by_cases h1 : a.getD d 0 = a.getD k 0
    · rw [if_pos h1]
      by_cases h2 : b.getD d 0 = b.getD k 0
      · rw [if_pos h2, ih (by omega) _ (by simpa using hx), scan, if_pos ⟨h1, h2⟩, List.set_set]
        congr 3
        rw [getD_lt _ _ (by simp; omega), List.getElem_set_self]
      · rw [if_neg h2, ih (by omega) _ hx, scan, if_neg (fun h => h2 h.2)]
    · rw [if_neg h1, ih (by omega) _ hx, scan, if_neg (fun h => h1 h.1)]
theorem scan_own (a b : List Int) (k : Nat) (t : Int) : scan a b k (k + 1) t = scan a b k k (k : Int) := by
  rw [scan, if_pos ⟨rfl, rfl⟩]
def meetOf (a b : List Int) : List Int := (List.range a.length).map fun k => scan a b k k (k : Int)
theorem spec_outer (a b : List Int) (hb : b.length = a.length) (hn : a.length ≤ 200) (d : Nat) : ∀ i : Nat, i + d = a.length → ∃ K, spec_MeetParts.l0 K a b ((meetOf a b).take i) (a.length : Int) (i : Int) = some (meetOf a b, true) := by
  have hl : (meetOf a b).length = a.length := by simp [meetOf]
  induction d with
  | zero =>
    intro i hi
    refine ⟨1, ?_⟩
    rw [spec_MeetParts.l0]
    rw [if_neg (by omega), List.take_of_length_le (by omega)]
  | succ d ih =>
    intro i hi
    obtain ⟨K, hK⟩ := ih (i + 1) (by omega)
    refine ⟨(K + (i + 1) + 1) + 1, ?_⟩
    rw [spec_MeetParts.l0]
    rw [if_pos (by omega)]
    have h := spec_inner a b hb hn i (by omega) K ((meetOf a b).take i) (by rw [List.length_take]; omega) (i + 1) (by omega) (i : Int)
    have e0 : ((i + 1 : Nat) : Int) - 1 = (i : Int) := by omega
    rw [e0] at h
    rw [h, scan_own, ← hK]
    congr 1
    rw [List.take_add_one, List.getElem?_eq_getElem (by omega)]
    simp [meetOf]
theorem impl_outer (a b : List Int) (hb : b.length = a.length) (hn : a.length ≤ 200) (d : Nat) : ∀ (i : Nat) (x : List Int), i + d = a.length → x.length = a.length → (∀ j, j < i → x[j]? = (meetOf a b)[j]?) → ∃ K, impl_MeetParts.l0 K a b x (a.length : Int) (i : Int) = some (meetOf a b, true) := by
  have hl : (meetOf a b).length = a.length := by simp [meetOf]
  induction d with
  | zero =>
    intro i x hi hx hj
    refine ⟨1, ?_⟩
    rw [impl_MeetParts.l0]
    rw [if_neg (by omega)]
    congr 2
    apply List.ext_getElem?
    intro j
    by_cases h : j < i
    · exact hj j h
    · rw [List.getElem?_eq_none (by omega), List.getElem?_eq_none (by omega)]
  | succ d ih =>
    intro i x hi hx hj
    obtain ⟨K, hK⟩ := ih (i + 1) (x.set i (scan a b i i (i : Int))) (by omega) (by simpa using hx) (by
      intro j hji
      rw [List.getElem?_set]
      by_cases h : i = j
      · subst h
        rw [if_pos rfl, if_pos (by omega), List.getElem?_eq_getElem (by omega)]
        simp [meetOf]
      · rw [if_neg h]
        exact hj j (by omega))
    refine ⟨(K + (i + 1) + 1) + 1, ?_⟩
    rw [impl_MeetParts.l0]
    rw [if_pos (by omega)]
    have h := impl_inner a b hb hn i (by omega) K (i + 1) (by omega) x hx
    have e0 : ((i + 1 : Nat) : Int) - 1 = (i : Int) := by omega
    rw [e0] at h
    rw [h, scan_own]
    exact hK
theorem meet_key (a b : List Int) (ha : a.length ≤ 1048576) (hb : b.length ≤ 1048576) : ∃ (p : List Int × Bool) (K : Nat), p.1.length ≤ 200 ∧ ∀ k, K ≤ k → spec_MeetParts.f k a b = some p ∧ impl_MeetParts.f k a b = some p := by
  have no : ∀ k, 1 ≤ k → spec_MeetParts.j0 k a b true = some ([], false) ∧ impl_MeetParts.j0 k a b true = some ([], false) := by
    intro k hk
    obtain ⟨k, rfl⟩ : ∃ m, k = m + 1 := ⟨k - 1, by omega⟩
    simp only [spec_MeetParts.j0, impl_MeetParts.j0]
    exact ⟨rfl, rfl⟩
  by_cases hg : okParts a = true ∧ okParts b = true ∧ a.length = b.length
  · obtain ⟨hga, hgb, he⟩ := hg
    have hl := (of_decide_eq_true hga).2
    obtain ⟨K1, h1⟩ := spec_outer a b he.symm hl a.length 0 (by omega)
    obtain ⟨K2, h2⟩ := impl_outer a b he.symm hl a.length 0 (List.replicate a.length 0) (by omega) (by simp) (fun j hj => by omega)
    refine ⟨(meetOf a b, true), K1 + K2 + a.length + b.length + 2, by simp [meetOf]; omega, fun k hk => ?_⟩
    obtain ⟨k, rfl⟩ : ∃ m, k = m + 1 := ⟨k - 1, by omega⟩
    have s1 : spec_MeetParts.l0 k a b [] (a.length : Int) 0 = some (meetOf a b, true) := at_rounds (fun k => (spec_MeetParts.mono_l k).2.1 _ _ _ _ _) (by omega : K1 ≤ k) h1
    have s2 : impl_MeetParts.l0 k a b (List.replicate a.length 0) (a.length : Int) 0 = some (meetOf a b, true) := at_rounds (fun k => (impl_MeetParts.mono_l k).2.1 _ _ _ _ _) (by omega : K2 ≤ k) h2
    have e : ((a.length : Int) != (b.length : Int)) = false := by simp [he]
    unfold spec_MeetParts.f impl_MeetParts.f
    simp only [spec_GoodParts_f a (k + 1) (by omega), spec_GoodParts_f b (k + 1) (by omega), impl_GoodParts_f a (by omega) (k + 1) (by omega), impl_GoodParts_f b (by omega) (k + 1) (by omega), hga, hgb, Option.bind_some, if_true, e, spec_MeetParts.j0, impl_MeetParts.j0, Bool.false_eq_true, if_false]
    rw [if_pos (by omega), if_pos (by omega)]
    exact ⟨s1, by simpa using s2⟩
  · refine ⟨([], false), a.length + b.length + 2, by simp, fun k hk => ?_⟩
    obtain ⟨n1, n2⟩ := no k (by omega)
    unfold spec_MeetParts.f impl_MeetParts.f
    simp only [spec_GoodParts_f a k (by omega), spec_GoodParts_f b k (by omega), impl_GoodParts_f a (by omega) k (by omega), impl_GoodParts_f b (by omega) k (by omega), Option.bind_some]
    cases hga : okParts a with
    | false => exact ⟨n1, n2⟩
    | true =>
      cases hgb : okParts b with
      | false => exact ⟨n1, n2⟩
      | true =>
        have e : ((a.length : Int) != (b.length : Int)) = true := by
          simp only [bne_iff_ne, ne_eq]
          intro h
          exact hg ⟨hga, hgb, by omega⟩
        simp only [if_true, e]
        exact ⟨n1, n2⟩
theorem FnExactMeetParts : laws_FnExactMeetParts.Pure := by
  intro l m _ _ _ _ _ _
  by_cases h : (l.length : Int) > 1048576
  · exact ⟨1, by unfold laws_FnExactMeetParts.f; rw [if_pos h]⟩
  by_cases h' : (m.length : Int) > 1048576
  · exact ⟨1, by unfold laws_FnExactMeetParts.f; rw [if_neg h, if_pos h']⟩
  · have hn : l.length ≤ 1048576 := by omega
    have hm : m.length ≤ 1048576 := by omega
    obtain ⟨⟨P, ok⟩, K0, hP, hk⟩ := meet_key l m hn hm
    simp only at hP
    obtain ⟨K, hK⟩ : ∃ K, K = K0 + l.length + m.length + P.length + 3 := ⟨_, rfl⟩
    refine ⟨K + 3, ?_⟩
    unfold laws_FnExactMeetParts.f
    rw [if_neg h, if_neg h']
    have e1 := fun j => laws_toIntS_f l hn (K + j) (by omega)
    have f1 := fun j => laws_toIntS_f m hm (K + j) (by omega)
    have s1 := fun j => (hk (K + j) (by omega)).1
    have s2 := fun j => (hk (K + j) (by omega)).2
    have e4 := fun j => laws_eqIntS_f l (by omega) (K + j) (by omega)
    have f4 := fun j => laws_eqIntS_f m (by omega) (K + j) (by omega)
    have e5 := fun j => laws_eqIntS_f P (by omega) (K + j) (by omega)
    have m1 := fun j => laws_markIntS_f l (by omega) (K + j) (by omega)
    have g1 := fun j => laws_markIntS_g m (by omega) (1 + l.length) (by omega) (K + j) (by omega)
    have m2 := fun j => laws_markIntS_f P (by omega) (K + j) (by omega)
    have h1 := fun j => laws_heldIntS_f l.length (by omega) (K + j) (by omega)
    have h2 := fun j => laws_heldIntS_f P.length (by omega) (K + j) (by omega)
    have n0 : ∀ n : Nat, ¬ ((n : Int) < 0) := fun n => by omega
    have z0 := e1 0; have z1 := s1 0; have z2 := s2 0; have z3 := e4 0; have z4 := e5 0; have z5 := m1 0; have z6 := m2 0; have z7 := h1 0; have z8 := h2 0
    simp only [Nat.add_zero] at z0 z1 z2 z3 z4 z5 z6 z7 z8
    simp only [e1, f1, s1, s2, e5, Option.bind_some, if_true, bne_self_eq_false]
    simp only [laws_FnExactMeetParts.j0, Bool.false_eq_true, if_false, e1, f1, e4, f4, e5, m1, g1, n0, Option.bind_some, if_true, bne_self_eq_false]
    simp only [laws_FnExactMeetParts.j1, Bool.false_eq_true, if_false, e1, f1, s2, e4, f4, e5, m1, m2, h1, h2, n0, Option.bind_some, if_true, bne_self_eq_false]
    simp only [laws_FnExactMeetParts.j2, Bool.false_eq_true, if_false, z0, z1, z2, z3, z4, z5, z6, z7, z8, n0, Option.bind_some, if_true]

end Go.Proofs.Ytcckpcgmpmlioaa.Pure
namespace Go.Proofs.Ytcckpcgmpmlioaa.PrintWords
/-- The name by which the printed row asks for it. -/
theorem sized_ints {H : Type} {enc : TypeId × Value → H} {P : Program} {W : World} {base : Nat} {spare : Nat → Bool} {held : Bool} {t e : TypeId} {k : IntKind} {a : Option Addr} {len cap : Nat} {d : DataW H} {ps : List MemPlace} {ts : List TypeId} {ds : List (DataW H)} {j : Nat}
    (hsz : (DataW.weightsEach P ts ds).all (· ≤ reachBytes) = true) (ht : ts[j]? = some t) (hd : ds[j]? = some d) (hu : P.underlying t = some (.slice e)) (he : P.underlying e = some (.int k)) (hc : P.cellsOf e = 1) {B : Nat} (hB : P.bytesOf e = B)
    (h : DataW.Trod enc P W base spare held t (.slice a len cap) d ps) : len * B ≤ 140737488351232 := Go.Proofs.YtcckpcgmpmlioaaW.PrintWords.sized_ints hsz ht hd hu he hc hB h
end Go.Proofs.Ytcckpcgmpmlioaa.PrintWords
