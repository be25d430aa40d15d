/- The program's FindRoot and the reference's answer alike at every list and number; no condition. -/
import Derived.Test.YtcckpcgmpmlioaaPFnExactFindRootx2
import Derived.Test.YtcckpcgmpmlioaaWSized
set_option linter.unusedVariables false
set_option linter.unusedSimpArgs false
namespace Go.Proofs.Ytcckpcgmpmlioaa.Pure
open Go.RowKit Go.Proofs.Ytcckpcgmpmlioaa.PFnExactFindRoot Go.Proofs.YtcckpcgmpmlioaaW.PrintWords Go.Proofs.YtcckpcgmpmlioaaW.PrintLast

theorem w64 (x : Int) (h0 : -9223372036854775808 ≤ x) (h1 : x ≤ 9223372036854775807) : wrap64 x = x := by unfold wrap64; omega
theorem w64s (i : Nat) (h : i ≤ 140737488355328) : wrap64 ((i : Int) + 1) = ((i + 1 : Nat) : Int) := by rw [w64 _ (by omega) (by omega)]; omega
theorem rd_nat (l : List Int) (i : Nat) : rd l (i : Int) = l.getD i 0 := by simp [rd]
theorem getD_lt (l : List Int) (i : Nat) (h : i < l.length) : l.getD i 0 = l[i] := by simp [List.getD_eq_getElem?_getD, h]

theorem laws_toIntS_run (x0 : List Int) (hn : x0.length ≤ 140737488351232) (d : Nat) : ∀ (k i : Nat) (x3 : List Int), i + d = x0.length → x3.length = x0.length → (∀ j, j < i → x3[j]? = x0[j]?) → d < k →
    laws_toIntS.l0 k x0 x3 (i : Int) = some x0 := by
  induction d with
  | zero =>
    intro k i x3 hi hl hj hk
    obtain ⟨k, rfl⟩ : ∃ m, k = m + 1 := ⟨k - 1, by omega⟩
    simp only [laws_toIntS.l0]
    rw [if_neg (by omega)]
    congr 1
    apply List.ext_getElem?
    intro j
    by_cases h : j < i
    · exact hj j h
    · rw [List.getElem?_eq_none (by omega), List.getElem?_eq_none (by omega)]
  | succ d ih =>
    intro k i x3 hi hl hj hk
    obtain ⟨k, rfl⟩ : ∃ m, k = m + 1 := ⟨k - 1, by omega⟩
    simp only [laws_toIntS.l0]
    rw [if_pos (by omega), if_pos (by omega), if_pos (by omega), w64s i (by omega)]
    refine ih k (i + 1) _ (by omega) (by simpa using hl) ?_ (by omega)
    intro j hji
    rw [Int.toNat_natCast, rd_nat, List.getElem?_set]
    by_cases h : i = j
    · subst h
      rw [if_pos rfl, if_pos (by omega), getD_lt _ _ (by omega), List.getElem?_eq_getElem (by omega)]
    · rw [if_neg h]
      exact hj j (by omega)
theorem laws_toIntS_f (l : List Int) (hn : l.length ≤ 1048576) (k : Nat) (hk : l.length < k) : laws_toIntS.f k l = some l := by
  unfold laws_toIntS.f
  rw [if_pos (by omega), if_pos (by omega)]
  exact laws_toIntS_run l (by omega) l.length k 0 _ (by omega) (by simp) (fun j hj => by omega) hk

theorem laws_eqIntS_run (x0 : List Int) (hn : x0.length ≤ 140737488351232) (d : Nat) : ∀ (k i : Nat), i + d = x0.length → d < k → laws_eqIntS.l0 k x0 x0 (i : Int) = some true := by
  induction d with
  | zero =>
    intro k i hi hk
    obtain ⟨k, rfl⟩ : ∃ m, k = m + 1 := ⟨k - 1, by omega⟩
    simp only [laws_eqIntS.l0]
    rw [if_neg (by omega)]
  | succ d ih =>
    intro k i hi hk
    obtain ⟨k, rfl⟩ : ∃ m, k = m + 1 := ⟨k - 1, by omega⟩
    simp only [laws_eqIntS.l0]
    rw [if_pos (by omega), if_pos (by omega), if_pos (by omega), if_pos trivial, w64s i (by omega)]
    exact ih k (i + 1) (by omega) (by omega)
theorem laws_eqIntS_f (l : List Int) (hn : l.length ≤ 140737488351232) (k : Nat) (hk : l.length < k) : laws_eqIntS.f k l l = some true := by
  unfold laws_eqIntS.f
  rw [if_pos rfl]
  exact laws_eqIntS_run l hn l.length k 0 (by omega) hk

/-- Parents: each at most its own number. -/
def okPar (l : List Int) : Bool := decide ((∀ i : Nat, i < l.length → 0 ≤ l.getD i 0 ∧ l.getD i 0 ≤ (i : Int)) ∧ l.length ≤ 200)
theorem spec_GoodParents_run (x0 : List Int) (hn : x0.length ≤ 140737488351232) (d : Nat) : ∀ (k i : Nat), i + d = x0.length → (∀ j : Nat, j < i → 0 ≤ x0.getD j 0 ∧ x0.getD j 0 ≤ (j : Int)) → d < k →
    spec_GoodParents.l0 k x0 x0 (x0.length : Int) (i : Int) = some (okPar x0) := by
  induction d with
  | zero =>
    intro k i hi hj hk
    obtain ⟨k, rfl⟩ : ∃ m, k = m + 1 := ⟨k - 1, by omega⟩
    simp only [spec_GoodParents.l0]
    rw [if_neg (by omega)]
    congr 1
    unfold okPar
    rw [decide_eq_decide]
    constructor
    · intro h; exact ⟨fun j hj' => hj j (by omega), by omega⟩
    · intro h; have := h.2; omega
  | succ d ih =>
    intro k i hi hj hk
    obtain ⟨k, rfl⟩ : ∃ m, k = m + 1 := ⟨k - 1, by omega⟩
    simp only [spec_GoodParents.l0]
    rw [if_pos (by omega), if_pos (by omega), if_pos (by omega), rd_nat]
    unfold spec_l1In.f
    by_cases h0 : x0.getD i 0 ≥ 0
    · rw [if_pos h0]
      by_cases h1 : x0.getD i 0 ≤ (i : Int)
      · rw [decide_eq_true h1, Option.bind_some, if_pos rfl, w64s i (by omega)]
        exact ih k (i + 1) (by omega) (fun j hj' => by
          by_cases e : j = i
          · subst e; exact ⟨h0, h1⟩
          · exact hj j (by omega)) (by omega)
      · rw [decide_eq_false h1, Option.bind_some, if_neg (by simp)]
        congr 1
        symm
        exact decide_eq_false (fun h => h1 (h.1 i (by omega)).2)
    · rw [if_neg h0, Option.bind_some, if_neg (by simp)]
      congr 1
      symm
      exact decide_eq_false (fun h => h0 (h.1 i (by omega)).1)
theorem spec_GoodParents_f (l : List Int) (hn : l.length ≤ 140737488351232) (k : Nat) (hk : l.length < k) : spec_GoodParents.f k l = some (okPar l) :=
  spec_GoodParents_run l hn l.length k 0 (by omega) (fun j hj => by omega) hk
theorem impl_parentsOK_eq : ∀ (k : Nat) (a b : List Int) (c d : Int), impl_parentsOK.l0 k a b c d = spec_GoodParents.l0 k a b c d := by
  intro k
  induction k with
  | zero => intros; rfl
  | succ k ih => intro a b c d; simp only [impl_parentsOK.l0, spec_GoodParents.l0, ih]; rfl
theorem impl_parentsOK_f (l : List Int) (hn : l.length ≤ 140737488351232) (k : Nat) (hk : l.length < k) : impl_parentsOK.f k l = some (okPar l) := by
  unfold impl_parentsOK.f
  rw [impl_parentsOK_eq]
  exact spec_GoodParents_f l hn k hk

/-- The root of a number, and the steps to it, in good parents. -/
theorem root_ends (l : List Int) (hg : okPar l = true) : ∀ (n : Nat), n < l.length → ∃ (r s : Int), 0 ≤ r ∧ r ≤ n ∧ 0 ≤ s ∧ ∀ (k : Nat) (s0 : Nat), n < k → s0 + n ≤ 1000 → spec_l5Root.l0 k l (n : Int) (s0 : Int) = some (r, s0 + s) := by
  have hp := (of_decide_eq_true hg).1
  have hl := (of_decide_eq_true hg).2
  intro n
  induction n using Nat.strongRecOn with
  | ind n ih =>
    intro hn
    have h1 := hp n hn
    by_cases e : l.getD n 0 = (n : Int)
    · refine ⟨n, 0, by omega, by omega, by omega, fun k s0 hk hs => ?_⟩
      obtain ⟨k, rfl⟩ : ∃ m, k = m + 1 := ⟨k - 1, by omega⟩
      simp only [spec_l5Root.l0]
      rw [if_pos (by omega), if_pos (by omega), rd_nat, if_pos e, Int.add_zero]
    · obtain ⟨m, hm⟩ := Int.eq_ofNat_of_zero_le h1.1
      have hmn : m < n := by omega
      obtain ⟨r, s, h0, h2, h3, h⟩ := ih m hmn (by omega)
      refine ⟨r, s + 1, h0, by omega, by omega, fun k s0 hk hs => ?_⟩
      obtain ⟨k, rfl⟩ : ∃ m, k = m + 1 := ⟨k - 1, by omega⟩
      simp only [spec_l5Root.l0]
      rw [if_pos (by omega), if_pos (by omega), rd_nat, if_neg e, hm, w64s s0 (by omega), h k (s0 + 1) (by omega) (by omega)]
      congr 2
      omega
theorem impl_root_eq : ∀ (k : Nat) (a : List Int) (c d : Int), impl_root.l0 k a c d = spec_l5Root.l0 k a c d := by
  intro k
  induction k with
  | zero => intros; rfl
  | succ k ih => intro a c d; simp only [impl_root.l0, spec_l5Root.l0, ih]
theorem impl_root_same (k : Nat) (a : List Int) (c : Int) : impl_root.f k a c = spec_l5Root.f k a c := by
  unfold impl_root.f spec_l5Root.f
  exact impl_root_eq k a c 0
theorem root_f (l : List Int) (hg : okPar l = true) (n : Nat) (hn : n < l.length) : ∃ (r s : Int), 0 ≤ r ∧ r ≤ n ∧ ∀ k, n < k → spec_l5Root.f k l (n : Int) = some (r, s) := by
  obtain ⟨r, s, h0, h2, _, h⟩ := root_ends l hg n hn
  have hl := (of_decide_eq_true hg).2
  exact ⟨r, s, h0, h2, fun k hk => by unfold spec_l5Root.f; have := h k 0 hk (by omega); simpa using this⟩

theorem FnExactFindRoot : laws_FnExactFindRoot.Pure := by
  intro l a _ _ _ _
  refine ⟨l.length + 2, ?_⟩
  unfold laws_FnExactFindRoot.f
  by_cases h : (l.length : Int) > 1048576
  · rw [if_pos h]
  · have hn : l.length ≤ 1048576 := by omega
    rw [if_neg h]
    have e1 := laws_toIntS_f l hn (l.length + 2) (by omega)
    have e1' := laws_toIntS_f l hn (l.length + 1) (by omega)
    have e4 := laws_eqIntS_f l (by omega) (l.length + 1) (by omega)
    have key : ∃ p, spec_FindRoot.f (l.length + 2) l a = some p ∧ impl_FindRoot.f (l.length + 2) l a = some p := by
      have e2 := spec_GoodParents_f l (by omega) (l.length + 2) (by omega)
      have e3 := impl_parentsOK_f l (by omega) (l.length + 2) (by omega)
      unfold spec_FindRoot.f impl_FindRoot.f
      simp only [e2, e3, Option.bind_some]
      cases hg : okPar l with
      | false => exact ⟨_, rfl, rfl⟩
      | true =>
        have hl := (of_decide_eq_true hg).2
        rw [if_pos rfl, if_pos rfl, w64 _ (by omega) (by omega)]
        unfold spec_l1In.f impl_within.f
        by_cases h0 : a ≥ 0
        · rw [if_pos h0]
          by_cases h1 : a ≤ (l.length : Int) - 1
          · obtain ⟨n, rfl⟩ := Int.eq_ofNat_of_zero_le h0
            obtain ⟨r, s, _, _, hr⟩ := root_f l hg n (by omega)
            have hr' := hr (l.length + 2) (by omega)
            simp only [decide_eq_true h1, Option.bind_some, if_true, impl_root_same, hr']
            exact ⟨_, rfl, rfl⟩
          · simp only [decide_eq_false h1, Option.bind_some]; exact ⟨_, rfl, rfl⟩
        · rw [if_neg h0]; exact ⟨_, rfl, rfl⟩
    obtain ⟨p, p1, p2⟩ := key
    simp only [e1, p1, p2, Option.bind_some, if_true, bne_self_eq_false]
    simp only [laws_FnExactFindRoot.j0, e1', e4, Option.bind_some, if_true]
    rfl

end Go.Proofs.Ytcckpcgmpmlioaa.Pure
namespace Go.Proofs.Ytcckpcgmpmlioaa.PrintWords
/-- The name by which the printed row asks for it. -/
theorem sized_ints {H : Type} {enc : TypeId × Value → H} {P : Program} {W : World} {base : Nat} {spare : Nat → Bool} {held : Bool} {t e : TypeId} {k : IntKind} {a : Option Addr} {len cap : Nat} {d : DataW H} {ps : List MemPlace} {ts : List TypeId} {ds : List (DataW H)} {j : Nat}
    (hsz : (DataW.weightsEach P ts ds).all (· ≤ reachBytes) = true) (ht : ts[j]? = some t) (hd : ds[j]? = some d) (hu : P.underlying t = some (.slice e)) (he : P.underlying e = some (.int k)) (hc : P.cellsOf e = 1) {B : Nat} (hB : P.bytesOf e = B)
    (h : DataW.Trod enc P W base spare held t (.slice a len cap) d ps) : len * B ≤ 140737488351232 := Go.Proofs.YtcckpcgmpmlioaaW.PrintWords.sized_ints hsz ht hd hu he hc hB h
end Go.Proofs.Ytcckpcgmpmlioaa.PrintWords
