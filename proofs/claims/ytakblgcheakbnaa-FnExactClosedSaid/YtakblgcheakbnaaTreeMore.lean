/- More on terms as trees, in plain words. No condition. -/
import Derived.Test.YtakblgcheakbnaaPile
set_option linter.unusedVariables false
namespace Go.Proofs.Ytakblgcheakbnaa.Tree
open Go Go.RowKit
theorem numOK_op {op n : Int} (h : numOK op n = true) : 1 ≤ op ∧ op ≤ 11 := by
  unfold numOK at h
  by_cases h1 : op = 1
  · omega
  · rw [if_neg h1] at h
    by_cases h2 : op = 2
    · omega
    · rw [if_neg h2] at h
      have := of_decide_eq_true h
      omega
theorem build_ok : ∀ (t : List (Int × Int)) (s s' : List Tr × List Tr), build t s = some s' → ∀ x ∈ t, numOK x.1 x.2 = true := by
  intro t
  induction t with
  | nil => intro s s' _ x hx; exact absurd hx (by simp)
  | cons y t ih =>
    intro s s' h x hx
    have h : (step s y).bind (build t) = some s' := h
    cases hs : step s y with
    | none => rw [hs] at h; exact absurd h (by simp)
    | some s1 =>
      rw [hs] at h
      rcases List.mem_cons.1 hx with e | e
      · subst e
        unfold step at hs
        split at hs
        · rename_i hc; exact hc.1
        · exact absurd hs (by simp)
      · exact ih s1 s' h x e
theorem treesOf_ok {t : List (Int × Int)} {Ts : List Tr} (h : treesOf t = some Ts) : 1 ≤ t.length ∧ t.length ≤ 40 ∧ ∃ s, build t ([], []) = some s ∧ s.1.length = 1 ∧ s.2 = Ts := by
  unfold treesOf at h
  split at h
  · rename_i hl
    refine ⟨hl.1, hl.2, ?_⟩
    cases hb : build t ([], []) with
    | none => rw [hb] at h; exact absurd h (by simp)
    | some s =>
      rw [hb] at h
      have h : (if s.1.length = 1 then some s.2 else none) = some Ts := h
      split at h
      · rename_i h1
        injection h with h
        exact ⟨s, rfl, h1, h⟩
      · exact absurd h (by simp)
  · exact absurd h (by simp)
theorem treeOf_trees {t : List (Int × Int)} (h : (treeOf t).isSome = true) : ∃ Ts, treesOf t = some Ts := by
  unfold treeOf at h
  cases hT : treesOf t with
  | none => rw [hT] at h; exact absurd h (by simp)
  | some Ts => exact ⟨Ts, rfl⟩
theorem treeOf_ok {t : List (Int × Int)} (h : (treeOf t).isSome = true) : 1 ≤ t.length ∧ t.length ≤ 40 ∧ ∀ x ∈ t, numOK x.1 x.2 = true := by
  obtain ⟨Ts, hT⟩ := treeOf_trees h
  obtain ⟨h1, h2, s, hb, _⟩ := treesOf_ok hT
  exact ⟨h1, h2, build_ok _ _ _ hb⟩
/-! A tree's nodes in order, kids first. -/
mutual
def Tr.flat : Tr → List (Int × Int)
  | .mk o n ks => flats ks ++ [(o, n)]
def flats : List Tr → List (Int × Int)
  | [] => []
  | k :: ks => k.flat ++ flats ks
end
/-- Every node has as many kids as its op wants, and a good number. -/
inductive Good : Tr → Prop
  | mk (o n : Int) (ks : List Tr) : numOK o n = true → (ks.length : Int) = arity o → (∀ k ∈ ks, Good k) → Good (.mk o n ks)
theorem Good.num {T : Tr} (h : Good T) : numOK T.op T.n = true := by cases h; assumption
theorem Good.kids {T : Tr} (h : Good T) : ∀ k ∈ T.kids, Good k := by cases h; assumption
theorem Good.arity {T : Tr} (h : Good T) : (T.kids.length : Int) = Tree.arity T.op := by cases h; assumption
theorem flat_eq (T : Tr) : T.flat = flats T.kids ++ [(T.op, T.n)] := by cases T; simp [Tr.flat, Tr.kids, Tr.op, Tr.n]
theorem flat_pos (T : Tr) : 1 ≤ T.flat.length := by rw [flat_eq]; simp
theorem flats_append (a b : List Tr) : flats (a ++ b) = flats a ++ flats b := by
  induction a with
  | nil => simp [flats]
  | cons x t ih => simp [flats, ih]
theorem flats_len_mem {ks : List Tr} {k : Tr} (h : k ∈ ks) : k.flat.length ≤ (flats ks).length := by
  induction ks with
  | nil => exact absurd h (by simp)
  | cons x t ih =>
    rcases List.mem_cons.1 h with e | e
    · subst e; simp [flats]
    · have := ih e; simp [flats]; omega
/-- The pile's nodes are the nodes so far. -/
structure Piled (t : List (Int × Int)) (s : List Tr × List Tr) : Prop where
  flat : flats s.1 = t
  good : ∀ T ∈ s.1, Good T
  all : ∀ k, k < s.2.length → ∃ T, s.2[k]? = some T ∧ Good T ∧ ∃ pre, t.take (k + 1) = pre ++ T.flat
  len : s.2.length = t.length
  last : s.1.getLast? = s.2.getLast?
theorem piled_step {t : List (Int × Int)} {s s' : List Tr × List Tr} {x : Int × Int} (h : Piled t s) (hs : step s x = some s') : Piled (t ++ [x]) s' := by
  unfold step at hs
  split at hs
  · rename_i hc
    injection hs with hs
    obtain ⟨hN, hA⟩ := hc
    have hr := arity_range x.1
    generalize hm : s.1.length - (arity x.1).toNat = m at hs
    have hk : ((s.1.drop m).length : Int) = arity x.1 := by rw [List.length_drop]; omega
    have hg : Good (.mk x.1 x.2 (s.1.drop m)) := .mk _ _ _ hN hk (fun k hk => h.good k (List.mem_of_mem_drop hk))
    have hfl : t = flats (s.1.take m) ++ flats (s.1.drop m) := by rw [← flats_append, List.take_append_drop]; exact h.flat.symm
    have hT : (Tr.mk x.1 x.2 (s.1.drop m)).flat = flats (s.1.drop m) ++ [x] := by simp [Tr.flat]
    subst hs
    refine ⟨?_, ?_, ?_, by simp [h.len], by simp⟩
    · show flats (s.1.take m ++ [.mk x.1 x.2 (s.1.drop m)]) = t ++ [x]
      rw [flats_append, hfl]
      simp [flats, hT]
    · intro T hT
      rcases List.mem_append.1 hT with e | e
      · exact h.good T (List.mem_of_mem_take e)
      · rw [List.mem_singleton.1 e]; exact hg
    · intro k hk
      have hk : k < (s.2 ++ [Tr.mk x.1 x.2 (s.1.drop m)]).length := hk
      rw [List.length_append, List.length_singleton] at hk
      show ∃ T, (s.2 ++ [Tr.mk x.1 x.2 (s.1.drop m)])[k]? = some T ∧ _
      by_cases c : k < s.2.length
      · obtain ⟨T, e1, e2, pre, e3⟩ := h.all k c
        refine ⟨T, by rw [List.getElem?_append_left c]; exact e1, e2, pre, ?_⟩
        rw [List.take_append_of_le_length (by have := h.len; omega)]
        exact e3
      · have : k = s.2.length := by omega
        subst this
        refine ⟨_, by rw [List.getElem?_append_right (Nat.le_refl _), Nat.sub_self]; rfl, hg, flats (s.1.take m), ?_⟩
        rw [hT, List.take_of_length_le (by rw [List.length_append, h.len]; simp), hfl]
        simp
  · exact absurd hs (by simp)
theorem piled_build : ∀ (t u : List (Int × Int)) (s s' : List Tr × List Tr), Piled u s → build t s = some s' → Piled (u ++ t) s' := by
  intro t
  induction t with
  | nil => intro u s s' h hb; injection hb with hb; subst hb; rw [List.append_nil]; exact h
  | cons x t ih =>
    intro u s s' h hb
    have hb : (step s x).bind (build t) = some s' := hb
    cases hs : step s x with
    | none => rw [hs] at hb; exact absurd hb (by simp)
    | some s1 =>
      rw [hs] at hb
      have := ih (u ++ [x]) s1 s' (piled_step h hs) hb
      rwa [List.append_assoc] at this
theorem piled_nil : Piled [] ([], []) := ⟨rfl, fun T h => absurd h (by simp), fun k h => absurd h (Nat.not_lt_zero _), rfl, rfl⟩
/-- The trees of a good term: the one of node k ends there. -/
theorem treesOf_at {t : List (Int × Int)} {Ts : List Tr} (h : treesOf t = some Ts) : Ts.length = t.length ∧ ∀ k, k < t.length → ∃ T, Ts[k]? = some T ∧ Good T ∧ ∃ pre, t.take (k + 1) = pre ++ T.flat := by
  obtain ⟨_, _, s, hb, _, rfl⟩ := treesOf_ok h
  have hp := piled_build t [] ([], []) s piled_nil hb
  rw [List.nil_append] at hp
  exact ⟨hp.len, fun k hk => hp.all k (by rw [hp.len]; exact hk)⟩
/-- A good term is its tree's nodes. -/
theorem treeOf_flat {t : List (Int × Int)} {T : Tr} (h : treeOf t = some T) : Good T ∧ T.flat = t ∧ t.length ≤ 40 := by
  obtain ⟨Ts, hT⟩ := treeOf_trees (t := t) (by rw [h]; rfl)
  have hlast : Ts.getLast? = some T := by unfold treeOf at h; rw [hT] at h; exact h
  obtain ⟨h1, h2, s, hb, hone, rfl⟩ := treesOf_ok hT
  have hp := piled_build t [] ([], []) s piled_nil hb
  rw [List.nil_append] at hp
  have hl1 := hp.last
  rw [hlast] at hl1
  match hs : s.1, hone with
  | [T'], _ =>
    rw [hs] at hl1
    have e : T' = T := by simpa using hl1
    subst e
    refine ⟨hp.good T' (by rw [hs]; exact List.mem_singleton.2 rfl), ?_, h2⟩
    have := hp.flat
    rw [hs] at this
    simpa [flats] using this
theorem flats_ge (ks : List Tr) : ks.length ≤ (flats ks).length := by
  induction ks with
  | nil => simp
  | cons x t ih => have := flat_pos x; simp [flats]; omega
theorem flats_take_le (ks : List Tr) (i : Nat) : (flats (ks.take i)).length ≤ (flats ks).length := by
  conv => rhs; rw [← List.take_append_drop i ks, flats_append, List.length_append]
  omega
theorem flats_take_succ (ks : List Tr) (i : Nat) {K : Tr} (h : ks[i]? = some K) : (flats (ks.take (i + 1))).length = (flats (ks.take i)).length + K.flat.length := by
  obtain ⟨hi, e⟩ := List.getElem?_eq_some_iff.1 h
  rw [List.take_succ_eq_append_getElem hi, flats_append, List.length_append, e]
  simp [flats]
/-! Ring terms. -/
mutual
def Tr.ring : Tr → Bool
  | .mk o _ ks => (decide (1 ≤ o ∧ o ≤ 6) || (decide (o = 7) && ((ks[1]?).map fun k => k.op) == some 1)) && rings ks
def rings : List Tr → Bool
  | [] => true
  | k :: ks => k.ring && rings ks
end
theorem rings_iff (ks : List Tr) : rings ks = true ↔ ∀ k ∈ ks, k.ring = true := by
  induction ks with
  | nil => simp [rings]
  | cons x t ih => simp [rings, ih]
theorem ring_eq (T : Tr) : T.ring = ((decide (1 ≤ T.op ∧ T.op ≤ 6) || (decide (T.op = 7) && ((T.kids[1]?).map fun k => k.op) == some 1)) && rings T.kids) := by
  cases T; rw [Tr.ring]; rfl
end Go.Proofs.Ytakblgcheakbnaa.Tree
