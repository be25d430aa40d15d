/- The program's DropLink and the reference's answer alike at every proof and number; no condition. -/
import Derived.Test.YtakblgcheakbnaaPFnExactDropLinkx6
import Derived.Test.YtakblgcheakbnaaRdFnExactDropLink
set_option linter.unusedVariables false
set_option linter.unusedSimpArgs false
namespace Go.Proofs.Ytakblgcheakbnaa.Pure
open Go.RowKit Go.Proofs.Ytakblgcheakbnaa.PFnExactDropLink Go.Proofs.YtakblgcheakbnaaW.PrintWords Go.Proofs.YtakblgcheakbnaaW.PrintLast Go.Proofs.YtakblgcheakbnaaW.PrintMore

theorem w64 (x : Int) (h0 : -9223372036854775808 ≤ x) (h1 : x ≤ 9223372036854775807) : wrap64 x = x := by unfold wrap64; omega
theorem w64s (i : Nat) (h : i ≤ 140737488355328) : wrap64 ((i : Int) + 1) = ((i + 1 : Nat) : Int) := by rw [w64 _ (by omega) (by omega)]; omega
theorem rd_nat (l : List Int) (i : Nat) : rd l (i : Int) = l.getD i 0 := by simp [rd]
theorem getD_lt (l : List Int) (i : Nat) (h : i < l.length) : l.getD i 0 = l[i] := by simp [List.getD_eq_getElem?_getD, h]

theorem laws_toIntS_run (x0 : List Int) (hn : x0.length ≤ 140737488351232) (d : Nat) : ∀ (k i : Nat) (x3 : List Int), i + d = x0.length → x3.length = x0.length → (∀ j, j < i → x3[j]? = x0[j]?) → d < k →
    laws_toIntS.l0 k x0 x3 (i : Int) = some x0 := by
  induction d with
  | zero =>
    intro k i x3 hi hl hj hk
    obtain ⟨k, rfl⟩ : ∃ m, k = m + 1 := ⟨k - 1, by omega⟩
    simp only [laws_toIntS.l0]
    rw [if_neg (by omega)]
    congr 1
    apply List.ext_getElem?
    intro j
    by_cases h : j < i
    · exact hj j h
    · rw [List.getElem?_eq_none (by omega), List.getElem?_eq_none (by omega)]
  | succ d ih =>
    intro k i x3 hi hl hj hk
    obtain ⟨k, rfl⟩ : ∃ m, k = m + 1 := ⟨k - 1, by omega⟩
    simp only [laws_toIntS.l0]
    rw [if_pos (by omega), if_pos (by omega), if_pos (by omega), w64s i (by omega)]
    refine ih k (i + 1) _ (by omega) (by simpa using hl) ?_ (by omega)
    intro j hji
    rw [Int.toNat_natCast, rd_nat, List.getElem?_set]
    by_cases h : i = j
    · subst h
      rw [if_pos rfl, if_pos (by omega), getD_lt _ _ (by omega), List.getElem?_eq_getElem (by omega)]
    · rw [if_neg h]
      exact hj j (by omega)
theorem laws_toIntS_f (l : List Int) (hn : l.length ≤ 1048576) (k : Nat) (hk : l.length < k) : laws_toIntS.f k l = some l := by
  unfold laws_toIntS.f
  rw [if_pos (by omega), if_pos (by omega)]
  exact laws_toIntS_run l (by omega) l.length k 0 _ (by omega) (by simp) (fun j hj => by omega) hk

theorem laws_eqIntS_run (x0 : List Int) (hn : x0.length ≤ 140737488351232) (d : Nat) : ∀ (k i : Nat), i + d = x0.length → d < k → laws_eqIntS.l0 k x0 x0 (i : Int) = some true := by
  induction d with
  | zero =>
    intro k i hi hk
    obtain ⟨k, rfl⟩ : ∃ m, k = m + 1 := ⟨k - 1, by omega⟩
    simp only [laws_eqIntS.l0]
    rw [if_neg (by omega)]
  | succ d ih =>
    intro k i hi hk
    obtain ⟨k, rfl⟩ : ∃ m, k = m + 1 := ⟨k - 1, by omega⟩
    simp only [laws_eqIntS.l0]
    rw [if_pos (by omega), if_pos (by omega), if_pos (by omega), if_pos trivial, w64s i (by omega)]
    exact ih k (i + 1) (by omega) (by omega)
theorem laws_eqIntS_f (l : List Int) (hn : l.length ≤ 140737488351232) (k : Nat) (hk : l.length < k) : laws_eqIntS.f k l l = some true := by
  unfold laws_eqIntS.f
  rw [if_pos rfl]
  exact laws_eqIntS_run l hn l.length k 0 (by omega) hk

/-- What markIntS writes: numbers from one on. -/
def marked (xs : List Int) (m : Int) : List Int := (List.range xs.length).map fun j : Nat => m + (j : Int)
theorem laws_markIntS_run (n : Nat) (hn : n ≤ 140737480000000) (m0 : Nat) (hm0 : m0 ≤ 3000000) (d : Nat) : ∀ (k i : Nat) (x : List Int), i + d = n → x.length = n → (∀ j, j < i → x[j]? = some ((m0 : Int) + (j : Int))) → d < k →
    laws_markIntS.l0 k x (((m0 + i : Nat)) : Int) (i : Int) = some (((m0 + n : Nat) : Int), (List.range n).map fun j : Nat => ((m0 : Int) + (j : Int))) := by
  induction d with
  | zero =>
    intro k i x hi hl hj hk
    obtain ⟨k, rfl⟩ : ∃ m, k = m + 1 := ⟨k - 1, by omega⟩
    simp only [laws_markIntS.l0]
    rw [if_neg (by omega)]
    have e : i = n := by omega
    subst e
    congr 2
    apply List.ext_getElem?
    intro j
    by_cases h : j < i
    · rw [hj j h, List.getElem?_map, List.getElem?_range h]; rfl
    · rw [List.getElem?_eq_none (by omega), List.getElem?_eq_none (by simp; omega)]
  | succ d ih =>
    intro k i x hi hl hj hk
    obtain ⟨k, rfl⟩ : ∃ m, k = m + 1 := ⟨k - 1, by omega⟩
    simp only [laws_markIntS.l0]
    rw [if_pos (by omega), if_pos (by omega), w64s i (by omega), w64s (m0 + i) (by omega)]
    refine ih k (i + 1) _ (by omega) (by simpa using hl) ?_ (by omega)
    intro j hji
    rw [Int.toNat_natCast, List.getElem?_set]
    by_cases h : i = j
    · subst h
      rw [if_pos rfl, if_pos (by omega)]
      congr 1
    · rw [if_neg h]
      exact hj j (by omega)
theorem laws_heldIntS_run (n : Nat) (hn : n ≤ 140737480000000) (m0 : Nat) (hm0 : m0 ≤ 3000000) (d : Nat) : ∀ (k i : Nat), i + d = n → d < k →
    laws_heldIntS.l0 k ((List.range n).map fun j : Nat => ((m0 : Int) + (j : Int))) (((m0 + i : Nat)) : Int) (i : Int) = some (((m0 + n : Nat) : Int)) := by
  induction d with
  | zero =>
    intro k i hi hk
    obtain ⟨k, rfl⟩ : ∃ m, k = m + 1 := ⟨k - 1, by omega⟩
    simp only [laws_heldIntS.l0]
    rw [if_neg (by simp; omega)]
    congr 2
    omega
  | succ d ih =>
    intro k i hi hk
    obtain ⟨k, rfl⟩ : ∃ m, k = m + 1 := ⟨k - 1, by omega⟩
    simp only [laws_heldIntS.l0]
    have hr : rd ((List.range n).map fun j : Nat => ((m0 : Int) + (j : Int))) (i : Int) = ((m0 + i : Nat) : Int) := by
      rw [rd_nat, getD_lt _ _ (by simp; omega)]
      simp
    rw [if_pos (by simp; omega), if_pos (by omega), hr, if_pos rfl, w64s i (by omega), w64s (m0 + i) (by omega)]
    exact ih k (i + 1) (by omega) (by omega)
theorem laws_markIntS_f (x : List Int) (hn : x.length ≤ 140737480000000) (k : Nat) (hk : x.length < k) : laws_markIntS.f k x 1 = some (((1 + x.length : Nat) : Int), (List.range x.length).map fun j : Nat => ((1 : Nat) : Int) + (j : Int)) :=
  laws_markIntS_run x.length hn 1 (by omega) x.length k 0 x (by omega) rfl (fun j hj => by omega) hk
theorem laws_heldIntS_f (n : Nat) (hn : n ≤ 140737480000000) (k : Nat) (hk : n < k) : laws_heldIntS.f k ((List.range n).map fun j : Nat => ((1 : Nat) : Int) + (j : Int)) 1 = some (((1 + n : Nat) : Int)) :=
  laws_heldIntS_run n hn 1 (by omega) n k 0 (by omega) hk
theorem laws_markIntS_g (x : List Int) (hn : x.length ≤ 140737480000000) (m0 : Nat) (hm0 : m0 ≤ 3000000) (k : Nat) (hk : x.length < k) : laws_markIntS.f k x (m0 : Int) = some (((m0 + x.length : Nat) : Int), (List.range x.length).map fun j : Nat => (m0 : Int) + (j : Int)) :=
  laws_markIntS_run x.length hn m0 hm0 x.length k 0 x (by omega) rfl (fun j hj => by omega) hk

def cvE (x : S130) : S114 := ⟨x.f0, x.f1, x.f2⟩
theorem szI_f (l : List Int) (m : Int) (hm0 : 0 ≤ m) (hm : m ≤ 1048576) (hl : l.length ≤ 9223372036854775807) : laws_szIntS.f l m = some (if m - (l.length : Int) < 0 then -1 else m - (l.length : Int)) := by
  unfold laws_szIntS.f
  have e : wrap64 (m - (l.length : Int)) = m - (l.length : Int) := by unfold wrap64; omega
  rw [e]
  split <;> rfl
theorem rdLE_nat (l : List S130) (i : Nat) (h : i < l.length) : rd_T130 l (i : Int) = l[i] := by unfold rd_T130; rw [Int.toNat_natCast, List.getD_eq_getElem?_getD, List.getElem?_eq_getElem h]; rfl
theorem rdE_nat (l : List S114) (i : Nat) (h : i < l.length) : rd_T114 l (i : Int) = l[i] := by unfold rd_T114; rw [Int.toNat_natCast, List.getD_eq_getElem?_getD, List.getElem?_eq_getElem h]; rfl
theorem szE_run (x0 : List S130) (hn : x0.length ≤ 1048576) (hin : ∀ x ∈ x0, x.f2.length ≤ 9223372036854775807) (d : Nat) : ∀ (k i : Nat) (m : Int), i + d = x0.length → d < k → 0 ≤ m → m ≤ 1048576 →
    ∃ t, laws_szENodeS.l0 k x0 m (i : Int) = some t ∧ (t < 0 ∨ (0 ≤ t ∧ t + ((((x0.drop i).map fun x => x.f2.length).sum : Nat) : Int) = m ∧ ∀ j, i ≤ j → (h : j < x0.length) → x0[j].f2.length ≤ 1048576)) := by
  induction d with
  | zero =>
    intro k i m hi hk h0 h1
    obtain ⟨k, rfl⟩ : ∃ j, k = j + 1 := ⟨k - 1, by omega⟩
    simp only [laws_szENodeS.l0]
    rw [if_neg (by omega)]
    exact ⟨_, rfl, .inr ⟨h0, by rw [List.drop_of_length_le (by omega)]; simp, fun j hj h => by omega⟩⟩
  | succ d ih =>
    intro k i m hi hk h0 h1
    obtain ⟨k, rfl⟩ : ∃ j, k = j + 1 := ⟨k - 1, by omega⟩
    have hil : i < x0.length := by omega
    have hx := hin _ (List.getElem_mem hil)
    simp only [laws_szENodeS.l0]
    rw [if_pos (by omega), if_pos (by omega), rdLE_nat _ i hil]
    unfold laws_szENode.f
    rw [szI_f _ m h0 h1 hx, Option.bind_some]
    by_cases hneg : m - (x0[i].f2.length : Int) < 0
    · rw [if_pos hneg, if_pos (by omega), Option.bind_some, if_pos (by omega)]
      exact ⟨_, rfl, .inl (by omega)⟩
    · rw [if_neg hneg, if_neg (by omega), Option.bind_some, if_neg (by omega), w64s i (by omega)]
      obtain ⟨t, ht, hh⟩ := ih k (i + 1) (m - (x0[i].f2.length : Int)) (by omega) (by omega) (by omega) (by omega)
      refine ⟨t, ht, hh.imp id (fun h => ⟨h.1, by have h2 := h.2.1; rw [List.drop_eq_getElem_cons hil, List.map_cons, List.sum_cons]; omega, fun j hj hjl => ?_⟩)⟩
      by_cases e : j = i
      · subst e; omega
      · exact h.2.2 j (by omega) hjl
theorem szE_f (l : List S130) (m : Int) (h0 : 0 ≤ m) (hm : m ≤ 1048576) (hl : l.length ≤ 9223372036854775807) (hin : ∀ x ∈ l, x.f2.length ≤ 9223372036854775807) (k : Nat) (hk : 1048576 < k) : ∃ t, laws_szENodeS.f k l m = some t ∧ (t < 0 ∨ (0 ≤ t ∧ t ≤ 1048576 ∧ l.length ≤ 1048576 ∧ (∀ x ∈ l, x.f2.length ≤ 1048576) ∧ (l.map fun x => x.f2.length).sum ≤ 1048576)) := by
  unfold laws_szENodeS.f
  have e : wrap64 (m - (l.length : Int)) = m - (l.length : Int) := by unfold wrap64; omega
  rw [e]
  by_cases h : m - (l.length : Int) < 0
  · rw [if_pos h]; exact ⟨_, rfl, .inl (by omega)⟩
  · rw [if_neg h]
    obtain ⟨t, ht, hh⟩ := szE_run l (by omega) hin l.length k 0 (m - (l.length : Int)) (by omega) (by omega) (by omega) (by omega)
    refine ⟨t, ht, hh.imp id (fun h => ?_)⟩
    have h2 := h.2.1
    rw [List.drop_zero] at h2
    refine ⟨h.1, by omega, by omega, fun x hx => ?_, by omega⟩
    obtain ⟨j, hj, rfl⟩ := List.getElem_of_mem hx
    exact h.2.2 j (Nat.zero_le _) hj
theorem toE_run (x0 : List S130) (hn : x0.length ≤ 1048576) (hin : ∀ x ∈ x0, x.f2.length ≤ 1048576) (d : Nat) : ∀ (k i : Nat) (x3 : List S114), i + d = x0.length → x3.length = x0.length → (∀ j, j < i → x3[j]? = (x0.map cvE)[j]?) → d + 1048577 < k →
    laws_toENodeS.l0 k x0 x3 (i : Int) = some (x0.map cvE) := by
  induction d with
  | zero =>
    intro k i x3 hi hl hj hk
    obtain ⟨k, rfl⟩ : ∃ m, k = m + 1 := ⟨k - 1, by omega⟩
    simp only [laws_toENodeS.l0]
    rw [if_neg (by omega)]
    congr 1
    apply List.ext_getElem?
    intro j
    by_cases h : j < i
    · exact hj j h
    · rw [List.getElem?_eq_none (by omega), List.getElem?_eq_none (by rw [List.length_map]; omega)]
  | succ d ih =>
    intro k i x3 hi hl hj hk
    obtain ⟨k, rfl⟩ : ∃ m, k = m + 1 := ⟨k - 1, by omega⟩
    have hil : i < x0.length := by omega
    have hx := hin _ (List.getElem_mem hil)
    simp only [laws_toENodeS.l0]
    rw [if_pos (by omega), if_pos (by omega), rdLE_nat _ i hil]
    unfold laws_toENode.f
    rw [laws_toIntS_f _ hx k (by omega), Option.bind_some, Option.bind_some, if_pos (by omega), w64s i (by omega)]
    refine ih k (i + 1) _ (by omega) (by simpa using hl) ?_ (by omega)
    intro j hji
    rw [Int.toNat_natCast, List.getElem?_set]
    by_cases h : i = j
    · subst h
      rw [if_pos rfl, if_pos (by omega), List.getElem?_map, List.getElem?_eq_getElem hil]
      rfl
    · rw [if_neg h]
      exact hj j (by omega)
theorem toE_f (l : List S130) (hn : l.length ≤ 1048576) (hin : ∀ x ∈ l, x.f2.length ≤ 1048576) (k : Nat) (hk : 2097160 < k) : laws_toENodeS.f k l = some (l.map cvE) := by
  unfold laws_toENodeS.f
  rw [if_pos (by omega), if_pos (by omega)]
  exact toE_run l hn hin l.length k 0 _ (by omega) (by simp) (fun j hj => by omega) (by omega)
theorem eqE_run (x0 : List S114) (hn : x0.length ≤ 1048576) (hin : ∀ x ∈ x0, x.f2.length ≤ 1048576) (d : Nat) : ∀ (k i : Nat), i + d = x0.length → d + 1048577 < k → laws_eqENodeS.l0 k x0 x0 (i : Int) = some true := by
  induction d with
  | zero =>
    intro k i hi hk
    obtain ⟨k, rfl⟩ : ∃ m, k = m + 1 := ⟨k - 1, by omega⟩
    simp only [laws_eqENodeS.l0]
    rw [if_neg (by omega)]
  | succ d ih =>
    intro k i hi hk
    obtain ⟨k, rfl⟩ : ∃ m, k = m + 1 := ⟨k - 1, by omega⟩
    have hil : i < x0.length := by omega
    have hx := hin _ (List.getElem_mem hil)
    simp only [laws_eqENodeS.l0]
    rw [if_pos (by omega), if_pos (by omega), if_pos (by omega), rdE_nat _ i hil]
    unfold laws_eqENode.f
    rw [laws_eqIntS_f _ (by omega) k (by omega), if_pos rfl, if_pos rfl, Option.bind_some, if_pos rfl, Option.bind_some, if_pos rfl, w64s i (by omega)]
    exact ih k (i + 1) (by omega) (by omega)
theorem eqE_f (l : List S114) (hn : l.length ≤ 1048576) (hin : ∀ x ∈ l, x.f2.length ≤ 1048576) (k : Nat) (hk : 2097160 < k) : laws_eqENodeS.f k l l = some true := by
  unfold laws_eqENodeS.f
  rw [if_pos rfl]
  exact eqE_run l hn hin l.length k 0 (by omega) (by omega)
theorem cvE_len (l : List S130) (hin : ∀ x ∈ l, x.f2.length ≤ 1048576) : ∀ x ∈ l.map cvE, x.f2.length ≤ 1048576 := fun x hx => by
  obtain ⟨y, hy, rfl⟩ := List.mem_map.1 hx
  exact hin y hy

theorem enW_cv (n : List S130) (hn : n.length ≤ 1048576) (hs : (n.map fun x => x.f2.length).sum ≤ 1048576) : enW (n.map cvE) ≤ 3145728 := by
  have h : enW (n.map cvE) = (n.map fun x => x.f2.length).sum + 2 * n.length := by
    clear hn hs
    unfold enW
    induction n with
    | nil => rfl
    | cons x t ih =>
      simp only [List.map_cons, List.sum_cons, List.length_cons] at ih ⊢
      rw [ih]
      show x.f2.length + 2 + _ = _
      omega
  omega

/-! The copy of a row of nodes. -/
theorem own_id (l : List Int) (hn : l.length ≤ 1048576) : spec_l1Own.f l = some l := by
  unfold spec_l1Own.f
  simp only [Option.bind_some, List.length_nil, List.nil_append]
  rw [if_pos (by omega)]
theorem cloneI_f (l : List Int) (hn : l.length ≤ 1048576) : slices_Clone_int.f l = some l := by unfold slices_Clone_int.f; rw [if_pos (by omega)]
theorem nodeE_eta (x : S114) : (⟨x.f0, x.f1, x.f2⟩ : S114) = x := rfl
theorem getE_mem (n : List S114) (i : Nat) (hi : i < n.length) : n.getD i z114 ∈ n := by
  rw [List.getD_eq_getElem?_getD, List.getElem?_eq_getElem hi]; exact List.getElem_mem hi
theorem cloneNodes_run (n : List S114) (hn : n.length ≤ 1048576) (hin : ∀ x ∈ n, x.f2.length ≤ 1048576) (d : Nat) : ∀ (k i : Nat) (x3 : List S114), i + d = n.length → x3.length = n.length → (∀ j, j < i → x3.getD j z114 = n.getD j z114) → d < k → impl_cloneNodes.l0 k x3 n (n.length : Int) (i : Int) = some n := by
  induction d with
  | zero =>
    intro k i x3 hi hl hj hk
    obtain ⟨k, rfl⟩ : ∃ m, k = m + 1 := ⟨k - 1, by omega⟩
    simp only [impl_cloneNodes.l0]
    rw [if_neg (by omega)]
    congr 1
    refine List.ext_getElem hl fun j h1 h2 => ?_
    have := hj j (by omega)
    rwa [List.getD_eq_getElem?_getD, List.getElem?_eq_getElem h1, List.getD_eq_getElem?_getD, List.getElem?_eq_getElem h2] at this
  | succ d ih =>
    intro k i x3 hi hl hj hk
    obtain ⟨k, rfl⟩ : ∃ m, k = m + 1 := ⟨k - 1, by omega⟩
    simp only [impl_cloneNodes.l0]
    rw [if_pos (by omega), if_pos (by omega), if_pos (by omega)]
    simp only [rd_T114, Int.toNat_natCast]
    rw [cloneI_f _ (hin _ (getE_mem n i (by omega))), Option.bind_some, if_pos (by omega), nodeE_eta, w64s i (by omega)]
    refine ih k (i + 1) _ (by omega) (by rw [List.length_set]; exact hl) (fun j h => ?_) (by omega)
    by_cases e : j = i
    · subst e
      rw [List.getD_eq_getElem?_getD, List.getElem?_set_self (by omega)]; rfl
    · rw [List.getD_eq_getElem?_getD, List.getElem?_set_ne (fun h => e h.symm), ← List.getD_eq_getElem?_getD]
      exact hj j (by omega)
theorem cloneNodes_f (n : List S114) (hn : n.length ≤ 1048576) (hin : ∀ x ∈ n, x.f2.length ≤ 1048576) (k : Nat) (hk : n.length < k) : impl_cloneNodes.f k n = some n := by
  unfold impl_cloneNodes.f
  rw [if_pos (by omega), if_pos (by omega)]
  exact cloneNodes_run n hn hin n.length k 0 _ (by omega) (by rw [List.length_replicate]; omega) (fun j h => absurd h (Nat.not_lt_zero _)) hk

/-! What is held behind the marking of a row of nodes. -/
theorem heldI_run (n : Nat) (hn : n ≤ 1048576) (m0 : Nat) (hm0 : m0 ≤ 300000000) (d : Nat) : ∀ (k i : Nat), i + d = n → d < k →
    laws_heldIntS.l0 k (mkI m0 n) (((m0 + i : Nat)) : Int) (i : Int) = some (((m0 + n : Nat) : Int)) := by
  induction d with
  | zero =>
    intro k i hi hk
    obtain ⟨k, rfl⟩ : ∃ m, k = m + 1 := ⟨k - 1, by omega⟩
    simp only [laws_heldIntS.l0]
    rw [if_neg (by rw [mkI_len]; omega)]
    congr 2
    omega
  | succ d ih =>
    intro k i hi hk
    obtain ⟨k, rfl⟩ : ∃ m, k = m + 1 := ⟨k - 1, by omega⟩
    simp only [laws_heldIntS.l0]
    have hr : rd (mkI m0 n) (i : Int) = ((m0 + i : Nat) : Int) := by
      rw [rd_nat, getD_lt _ _ (by rw [mkI_len]; omega)]
      unfold mkI
      simp
    rw [if_pos (by rw [mkI_len]; omega), if_pos (by omega), hr, if_pos rfl, w64s i (by omega), w64s (m0 + i) (by omega)]
    exact ih k (i + 1) (by omega) (by omega)
theorem heldI_at (m n : Nat) (hn : n ≤ 1048576) (hm : m ≤ 300000000) (k : Nat) (hk : n < k) : laws_heldIntS.f k (mkI m n) (m : Int) = some ((m + n : Nat) : Int) := heldI_run n hn m hm n k 0 (by omega) hk
theorem mkEL_at (l : List S114) (m i : Nat) (hi : i < l.length) : (mkEL l m).getD i z114 = mkE l m i := by
  unfold mkEL
  rw [List.getD_eq_getElem?_getD, List.getElem?_map, List.getElem?_range hi]; rfl
theorem mkEL_len (l : List S114) (m : Nat) : (mkEL l m).length = l.length := by unfold mkEL; rw [List.length_map, List.length_range]
theorem heldE_run (l : List S114) (hl : l.length ≤ 1048576) (hin : ∀ x ∈ l, x.f2.length ≤ 1048576) (m : Nat) (hm : m + enW l ≤ 100000000) (d : Nat) : ∀ (k i : Nat), i + d = l.length → d + 1048577 < k → laws_heldENodeS.l0 k (mkEL l m) ((m + enW (l.take i) : Nat) : Int) (i : Int) = some ((m + enW l : Nat) : Int) := by
  induction d with
  | zero =>
    intro k i hi hk
    obtain ⟨k, rfl⟩ : ∃ m, k = m + 1 := ⟨k - 1, by omega⟩
    simp only [laws_heldENodeS.l0, mkEL_len]
    rw [if_neg (by omega), List.take_of_length_le (by omega)]
  | succ d ih =>
    intro k i hi hk
    obtain ⟨k, rfl⟩ : ∃ m, k = m + 1 := ⟨k - 1, by omega⟩
    have hiw := enW_take_succ l i (by omega)
    have hle := enW_take_le l (i + 1)
    have hk3 := hin _ (by rw [List.getD_eq_getElem?_getD, List.getElem?_eq_getElem (show i < l.length by omega)]; exact List.getElem_mem _ : l.getD i z114 ∈ l)
    simp only [laws_heldENodeS.l0, mkEL_len]
    rw [if_pos (by omega), if_pos (by omega)]
    simp only [rd_T114, Int.toNat_natCast, mkEL_at l m i (show i < l.length by omega), mkE]
    rw [if_pos trivial, w64s (m + enW (l.take i)) (by omega), if_pos rfl, w64s (m + enW (l.take i) + 1) (by omega)]
    rw [heldI_at (m + enW (l.take i) + 2) _ hk3 (by omega) k (by omega), Option.bind_some, if_neg (by omega), w64s i (by omega)]
    have := ih k (i + 1) (by omega) (by omega)
    rw [hiw] at this
    rw [← this]
    congr 1
    omega
theorem heldE_f (l : List S114) (hl : l.length ≤ 1048576) (hin : ∀ x ∈ l, x.f2.length ≤ 1048576) (hm : 1 + enW l ≤ 100000000) (k : Nat) (hk : 2097160 < k) : laws_heldENodeS.f k (mkEL l 1) 1 = some ((1 + enW l : Nat) : Int) := by
  unfold laws_heldENodeS.f
  exact heldE_run l hl hin 1 hm l.length k 0 (by omega) (by omega)

/-! Rows of links: size, copy, comparison, what is held behind marking. -/
def cvL (x : S167) : S123 := ⟨x.f0, x.f1, x.f2⟩
theorem rdLL_nat (l : List S167) (i : Nat) (h : i < l.length) : rd_T167 l (i : Int) = l[i] := by unfold rd_T167; rw [Int.toNat_natCast, List.getD_eq_getElem?_getD, List.getElem?_eq_getElem h]; rfl
theorem rdL_nat (l : List S123) (i : Nat) (h : i < l.length) : rd_T123 l (i : Int) = l[i] := by unfold rd_T123; rw [Int.toNat_natCast, List.getD_eq_getElem?_getD, List.getElem?_eq_getElem h]; rfl
theorem szL_f (l : List S167) (m : Int) (h0 : 0 ≤ m) (hm : m ≤ 1048576) (hl : l.length ≤ 9223372036854775807) : laws_szLinkS.f l m = some (if m - (l.length : Int) < 0 then -1 else m - (l.length : Int)) := by
  unfold laws_szLinkS.f
  have e : wrap64 (m - (l.length : Int)) = m - (l.length : Int) := by unfold wrap64; omega
  rw [e]
  by_cases h : m - (l.length : Int) < 0
  · rw [if_pos h, if_pos h]
  · rw [if_neg h, if_neg h]
theorem toL_run (x0 : List S167) (hn : x0.length ≤ 1048576) (d : Nat) : ∀ (k i : Nat) (x3 : List S123), i + d = x0.length → x3.length = x0.length → (∀ j, j < i → x3[j]? = (x0.map cvL)[j]?) → d < k →
    laws_toLinkS.l0 k x0 x3 (i : Int) = some (x0.map cvL) := by
  induction d with
  | zero =>
    intro k i x3 hi hl hj hk
    obtain ⟨k, rfl⟩ : ∃ m, k = m + 1 := ⟨k - 1, by omega⟩
    simp only [laws_toLinkS.l0]
    rw [if_neg (by omega)]
    congr 1
    apply List.ext_getElem?
    intro j
    by_cases h : j < i
    · exact hj j h
    · rw [List.getElem?_eq_none (by omega), List.getElem?_eq_none (by rw [List.length_map]; omega)]
  | succ d ih =>
    intro k i x3 hi hl hj hk
    obtain ⟨k, rfl⟩ : ∃ m, k = m + 1 := ⟨k - 1, by omega⟩
    have hil : i < x0.length := by omega
    simp only [laws_toLinkS.l0]
    rw [if_pos (by omega), if_pos (by omega), rdLL_nat _ i hil]
    unfold laws_toLink.f
    rw [Option.bind_some, if_pos (by omega), w64s i (by omega)]
    refine ih k (i + 1) _ (by omega) (by simpa using hl) ?_ (by omega)
    intro j hji
    rw [Int.toNat_natCast, List.getElem?_set]
    by_cases h : i = j
    · subst h
      rw [if_pos rfl, if_pos (by omega), List.getElem?_map, List.getElem?_eq_getElem hil]
      rfl
    · rw [if_neg h]
      exact hj j (by omega)
theorem toL_f (l : List S167) (hn : l.length ≤ 1048576) (k : Nat) (hk : l.length < k) : laws_toLinkS.f k l = some (l.map cvL) := by
  unfold laws_toLinkS.f
  rw [if_pos (by omega), if_pos (by omega)]
  exact toL_run l hn l.length k 0 _ (by omega) (by simp) (fun j hj => by omega) hk
theorem eqL_run (x0 : List S123) (hn : x0.length ≤ 1048576) (d : Nat) : ∀ (k i : Nat), i + d = x0.length → d < k → laws_eqLinkS.l0 k x0 x0 (i : Int) = some true := by
  induction d with
  | zero =>
    intro k i hi hk
    obtain ⟨k, rfl⟩ : ∃ m, k = m + 1 := ⟨k - 1, by omega⟩
    simp only [laws_eqLinkS.l0]
    rw [if_neg (by omega)]
  | succ d ih =>
    intro k i hi hk
    obtain ⟨k, rfl⟩ : ∃ m, k = m + 1 := ⟨k - 1, by omega⟩
    simp only [laws_eqLinkS.l0]
    rw [if_pos (by omega), if_pos (by omega), if_pos (by omega)]
    unfold laws_eqLink.f
    rw [if_pos rfl, if_pos rfl, if_pos rfl, Option.bind_some, if_pos rfl, w64s i (by omega)]
    exact ih k (i + 1) (by omega) (by omega)
theorem eqL_f (l : List S123) (hn : l.length ≤ 1048576) (k : Nat) (hk : l.length < k) : laws_eqLinkS.f k l l = some true := by
  unfold laws_eqLinkS.f
  rw [if_pos rfl]
  exact eqL_run l hn l.length k 0 (by omega) hk
theorem heldL_run (n : Nat) (hn : n ≤ 1048576) (m : Nat) (hm : m ≤ 300000000) (d : Nat) : ∀ (k i : Nat), i + d = n → d < k → laws_heldLinkS.l0 k (mkLL m n) ((m + 3 * i : Nat) : Int) (i : Int) = some ((m + 3 * n : Nat) : Int) := by
  induction d with
  | zero =>
    intro k i hi hk
    obtain ⟨k, rfl⟩ : ∃ m, k = m + 1 := ⟨k - 1, by omega⟩
    simp only [laws_heldLinkS.l0]
    rw [if_neg (by rw [mkLL_len]; omega)]
    congr 2
    omega
  | succ d ih =>
    intro k i hi hk
    obtain ⟨k, rfl⟩ : ∃ m, k = m + 1 := ⟨k - 1, by omega⟩
    have hr : rd_T123 (mkLL m n) (i : Int) = mkL m i := by
      rw [rdL_nat _ i (by rw [mkLL_len]; omega)]
      unfold mkLL
      simp
    have e1 : wrap64 (((m + 3 * i : Nat) : Int) + 1) = ((m + 3 * i + 1 : Nat) : Int) := by unfold wrap64; omega
    have e2 : wrap64 (((m + 3 * i + 1 : Nat) : Int) + 1) = ((m + 3 * i + 2 : Nat) : Int) := by unfold wrap64; omega
    have e3 : wrap64 (((m + 3 * i + 2 : Nat) : Int) + 1) = ((m + 3 * (i + 1) : Nat) : Int) := by unfold wrap64; omega
    simp only [laws_heldLinkS.l0, hr, mkL]
    rw [if_pos (by rw [mkLL_len]; omega), if_pos (by omega), if_pos trivial, e1, if_pos rfl, e2, if_pos rfl, e3, w64s i (by omega)]
    exact ih k (i + 1) (by omega) (by omega)
theorem heldL_at (m n : Nat) (hn : n ≤ 1048576) (hm : m ≤ 300000000) (k : Nat) (hk : n < k) : laws_heldLinkS.f k (mkLL m n) (m : Int) = some ((m + 3 * n : Nat) : Int) := heldL_run n hn m hm n k 0 (by omega) hk

theorem l11Own_run (n : List S114) (hn : n.length ≤ 1048576) (hin : ∀ x ∈ n, x.f2.length ≤ 1048576) (d : Nat) : ∀ (k i : Nat) (acc : List S114), i + d = n.length → acc.length = i → d < k → spec_l11Own.l0 k acc n (n.length : Int) (i : Int) = some (acc ++ n.drop i) := by
  induction d with
  | zero =>
    intro k i acc hi hl hk
    obtain ⟨k, rfl⟩ : ∃ m, k = m + 1 := ⟨k - 1, by omega⟩
    simp only [spec_l11Own.l0]
    rw [if_neg (by omega), List.drop_eq_nil_of_le (by omega), List.append_nil]
  | succ d ih =>
    intro k i acc hi hl hk
    obtain ⟨k, rfl⟩ : ∃ m, k = m + 1 := ⟨k - 1, by omega⟩
    simp only [spec_l11Own.l0]
    rw [if_pos (by omega), if_pos (by omega), if_pos (by omega)]
    simp only [rd_T114, Int.toNat_natCast]
    rw [own_id _ (hin _ (getE_mem n i (by omega))), Option.bind_some, if_pos (by omega), nodeE_eta, w64s i (by omega)]
    rw [ih k (i + 1) _ (by omega) (by simp; omega) (by omega), List.append_assoc]
    congr 2
    rw [List.drop_eq_getElem_cons (show i < n.length by omega), List.getD_eq_getElem?_getD, List.getElem?_eq_getElem (show i < n.length by omega)]
    rfl
theorem l11Own_f (n : List S114) (hn : n.length ≤ 1048576) (hin : ∀ x ∈ n, x.f2.length ≤ 1048576) (k : Nat) (hk : n.length < k) : spec_l11Own.f k n = some n := by
  unfold spec_l11Own.f
  exact l11Own_run n hn hin n.length k 0 [] (by omega) rfl hk
theorem drop_key (n : List S114) (p : List S123) (hn : n.length ≤ 1048576) (hin : ∀ x ∈ n, x.f2.length ≤ 1048576) (hp : p.length ≤ 1048576) (a : Int) (k : Nat) (hk : 2097160 < k) : ∃ r : List S114 × List S123 × Bool, ((r.1 = n ∨ r.1 = []) ∧ r.2.1.length ≤ 1048576) ∧ spec_DropLink.f k n p a = some r ∧ impl_DropLink.f k n p a = some r := by
  unfold spec_DropLink.f impl_DropLink.f
  by_cases h3 : 300 < (p.length : Int)
  · rw [if_pos h3, if_pos h3]
    exact ⟨([], [], false), ⟨.inr rfl, by simp⟩, rfl, rfl⟩
  rw [if_neg h3, if_neg h3]
  rw [w64 ((p.length : Int) - 1) (by omega) (by omega)]
  have hi : spec_l1In.f a 0 ((p.length : Int) - 1) = some (decide (0 ≤ a ∧ a ≤ (p.length : Int) - 1)) := by
    unfold spec_l1In.f
    by_cases h0 : a ≥ 0
    · rw [if_pos h0]; congr 1; simp only [decide_eq_decide]; omega
    · rw [if_neg h0, decide_eq_false (by omega)]
  have hw : impl_within.f a 0 ((p.length : Int) - 1) = some (decide (0 ≤ a ∧ a ≤ (p.length : Int) - 1)) := by
    unfold impl_within.f
    by_cases h0 : a ≥ 0
    · rw [if_pos h0]; congr 1; simp only [decide_eq_decide]; omega
    · rw [if_neg h0, decide_eq_false (by omega)]
  rw [hi, hw]
  simp only [Option.bind_some]
  by_cases ha : 0 ≤ a ∧ a ≤ (p.length : Int) - 1
  case neg =>
    rw [decide_eq_false ha]
    exact ⟨([], [], false), ⟨.inr rfl, by simp⟩, rfl, rfl⟩
  rw [decide_eq_true ha]
  obtain ⟨m, rfl⟩ := Int.eq_ofNat_of_zero_le ha.1
  have hm : m < p.length := by omega
  simp only [if_true, List.length_nil, List.nil_append, Int.toNat_natCast]
  have hcl : slices_Clone_impl_Link.f p = some p := by unfold slices_Clone_impl_Link.f; rw [if_pos (by omega)]
  rw [l11Own_f n hn hin k (by omega), cloneNodes_f n hn hin k (by omega), hcl, w64s m (by omega)]
  have hsp : (p.take m ++ p.drop (m + 1)) = p.eraseIdx m := (List.eraseIdx_eq_take_drop_succ p m).symm
  have hlen : (p.eraseIdx m).length = p.length - 1 := by rw [List.length_eraseIdx, if_pos hm]
  refine ⟨(n, p.eraseIdx m, true), ⟨.inl rfl, by simp only; omega⟩, ?_, ?_⟩
  · simp only [Option.bind_some, Int.toNat_natCast]
    rw [if_pos (by omega), if_pos (by omega), if_pos (by rw [List.length_take]; omega), if_pos (by omega), if_pos (by omega), if_pos (by rw [List.length_take, List.length_drop]; omega), hsp]
  · simp only [Option.bind_some]
    rw [if_pos (by omega)]
theorem FnExactDropLink : RdFnExactDropLink.Pure := by
  rintro ⟨n, p⟩ a ⟨hn, hp⟩ hl hl2 _
  simp only at hn hp hl hl2 ⊢
  refine ⟨1000000010, ?_⟩
  unfold laws_FnExactDropLink.f
  obtain ⟨t1, ht1, hh1⟩ := szE_f n 1048576 (by omega) (by omega) hl (fun x hx => (hn.2 x hx).2.2.1) 1000000010 (by omega)
  have hsz : ∃ t, laws_szProof.f 1000000010 n p 1048576 = some t ∧ (t < 0 ∨ (n.length ≤ 1048576 ∧ (∀ x ∈ n, x.f2.length ≤ 1048576) ∧ p.length ≤ 1048576 ∧ (n.map fun x => x.f2.length).sum ≤ 1048576)) := by
    unfold laws_szProof.f
    rw [ht1, Option.bind_some]
    by_cases h : t1 < 0
    · rw [if_pos h]; exact ⟨_, rfl, .inl (by omega)⟩
    · obtain ⟨a, b, c, d, e⟩ := hh1.resolve_left h
      rw [if_neg h, szL_f p t1 a b hl2, Option.bind_some]
      by_cases h' : t1 - (p.length : Int) < 0
      · rw [if_pos h', if_pos (by omega)]; exact ⟨_, rfl, .inl (by omega)⟩
      · rw [if_neg h', if_neg h']; exact ⟨_, rfl, .inr ⟨c, d, by omega, e⟩⟩
  obtain ⟨t, ht, hh⟩ := hsz
  rw [ht, Option.bind_some]
  by_cases h : t < 0
  · rw [if_pos h]
  · obtain ⟨h1, h2, h3, h4⟩ := hh.resolve_left h
    have hlen : (n.map cvE).length = n.length := List.length_map _
    have hlen2 : (p.map cvL).length = p.length := List.length_map _
    have hW := enW_cv n h1 h4
    have hto : laws_toProof.f 1000000010 n p = some (n.map cvE, p.map cvL) := by
      unfold laws_toProof.f
      rw [toE_f n h1 h2 1000000010 (by omega), Option.bind_some, toL_f p h3 1000000010 (by omega), Option.bind_some]
    have hin := cvE_len n h2
    have heq : ∀ (N : List S114) (P : List S123), N.length ≤ 1048576 → (∀ x ∈ N, x.f2.length ≤ 1048576) → P.length ≤ 1048576 → laws_eqProof.f 1000000010 N P N P = some true := fun N P a b c => by
      unfold laws_eqProof.f
      rw [eqE_f N a b 1000000010 (by omega), Option.bind_some, if_pos rfl, eqL_f P c 1000000010 (by omega)]
      rfl
    obtain ⟨r, ⟨hr1, hr3⟩, hs, hi⟩ := drop_key (n.map cvE) (p.map cvL) (by omega) hin (by omega) a 1000000010 (by omega)
    have hq := heq (n.map cvE) (p.map cvL) (by omega) hin (by omega)
    have hrl : r.1.length ≤ 1048576 ∧ (∀ x ∈ r.1, x.f2.length ≤ 1048576) ∧ enW r.1 ≤ 3145728 := by
      rcases hr1 with e | e
      · rw [e]; exact ⟨by omega, hin, hW⟩
      · rw [e]; exact ⟨by simp, by simp, by simp [enW]⟩
    obtain ⟨hr1, hr2, hrw⟩ := hrl
    have he := heq r.1 r.2.1 hr1 hr2 hr3
    have hd1 := heldE_f r.1 hr1 hr2 (by omega) 1000000010 (by omega)
    have hd2 := heldL_at (1 + enW r.1) r.2.1.length hr3 (by omega) 1000000010 (by omega)
    have hd : laws_heldProof.f 1000000010 (mkEL r.1 1) (mkLL (1 + enW r.1) r.2.1.length) 1 = some ((1 + enW r.1 + 3 * r.2.1.length : Nat) : Int) := by
      unfold laws_heldProof.f
      rw [hd1, Option.bind_some, if_neg (by omega), hd2, Option.bind_some, if_neg (by omega)]
    generalize n.map cvE = L at *
    generalize p.map cvL = P at *
    simp only [if_neg h, hto, hs, hi, hq, he, hd, Option.bind_some]
    exact if_pos ⟨⟨trivial, trivial, trivial⟩, ⟨by omega, by omega⟩, ⟨by omega, by omega⟩, trivial⟩

end Go.Proofs.Ytakblgcheakbnaa.Pure
