/- Ring terms: what a node's place tells, in plain words. No condition. -/
import Derived.Test.YtlneknaiimmfmaaTreeMore
set_option linter.unusedVariables false
namespace Go.Proofs.Ytlneknaiimmfmaa.Tree
open Go Go.RowKit
/-- What a ring term's node is, by its place. -/
def chk (t : List (Int × Int)) (i : Nat) : Bool := decide ((t.getD i (0, 0)).1 ≤ 7) && (decide ((t.getD i (0, 0)).1 ≠ 7) || decide ((t.getD (i - 1) (0, 0)).1 = 1))
theorem getD_mid (pre post : List (Int × Int)) (x : Int × Int) (l : List (Int × Int)) (i : Nat) (hi : i = pre.length + l.length) : (pre ++ (l ++ [x]) ++ post).getD i (0, 0) = x := by
  subst hi
  rw [List.getD_eq_getElem?_getD, List.append_assoc, List.getElem?_append_right (by omega), List.append_assoc, List.getElem?_append_right (by omega)]
  have : pre.length + l.length - pre.length - l.length = 0 := by omega
  rw [this]
  rfl
theorem flats_single_last (ks : List Tr) (j : Nat) {K : Tr} (h : ks[j]? = some K) (hj : j + 1 = ks.length) : ∃ l, flats ks = l ++ [(K.op, K.n)] := by
  obtain ⟨hi, e⟩ := List.getElem?_eq_some_iff.1 h
  refine ⟨flats (ks.take j) ++ flats K.kids, ?_⟩
  have : ks = ks.take j ++ [K] := by
    have h1 := List.take_succ_eq_append_getElem hi
    rw [hj, List.take_length, e] at h1
    exact h1
  conv => lhs; rw [this]
  rw [flats_append]
  simp [flats, flat_eq K]
theorem chk_flat : ∀ (n : Nat) (T : Tr), T.flat.length ≤ n → Good T → ∀ pre post : List (Int × Int), (∀ i, pre.length ≤ i → i < pre.length + T.flat.length → chk (pre ++ T.flat ++ post) i = true) ↔ T.ring = true := by
  intro n
  induction n with
  | zero => intro T h; have := flat_pos T; omega
  | succ n ih =>
    intro T hsz hg pre post
    have hsz2 : (flats T.kids).length ≤ n := by rw [flat_eq, List.length_append, List.length_singleton] at hsz; omega
    have all : ∀ ks : List Tr, (flats ks).length ≤ n → (∀ k ∈ ks, Good k) → ∀ pre post : List (Int × Int), (∀ i, pre.length ≤ i → i < pre.length + (flats ks).length → chk (pre ++ flats ks ++ post) i = true) ↔ rings ks = true := by
      intro ks
      induction ks with
      | nil => intro _ _ pre post; simp [flats, rings]; intro i h1 h2; omega
      | cons x t iht =>
        intro h1 h2 pre post
        simp only [flats, List.length_append] at h1 ⊢
        have hx := ih x (by omega) (h2 x (List.mem_cons_self ..)) pre (flats t ++ post)
        have ht := iht (by omega) (fun k hk => h2 k (List.mem_cons_of_mem _ hk)) (pre ++ x.flat) post
        have e1 : pre ++ (x.flat ++ flats t) ++ post = pre ++ x.flat ++ (flats t ++ post) := by simp
        have e2 : pre ++ (x.flat ++ flats t) ++ post = pre ++ x.flat ++ flats t ++ post := by simp
        rw [show rings (x :: t) = (x.ring && rings t) by simp [rings], Bool.and_eq_true, ← hx, ← ht]
        constructor
        · intro h
          refine ⟨fun i h3 h4 => ?_, fun i h3 h4 => ?_⟩
          · rw [← e1]; exact h i h3 (by omega)
          · rw [← e2]; rw [List.length_append] at h3 h4; exact h i (by omega) (by omega)
        · rintro ⟨h3, h4⟩ i h5 h6
          by_cases c : i < pre.length + x.flat.length
          · rw [e1]; exact h3 i h5 c
          · rw [e2]; exact h4 i (by rw [List.length_append]; omega) (by rw [List.length_append]; omega)
    have hall := all T.kids hsz2 hg.kids pre ([(T.op, T.n)] ++ post)
    have hfl : T.flat.length = (flats T.kids).length + 1 := by rw [flat_eq]; simp
    have hlist : pre ++ T.flat ++ post = pre ++ flats T.kids ++ ([(T.op, T.n)] ++ post) := by rw [flat_eq]; simp
    have hroot : (pre ++ T.flat ++ post).getD (pre.length + (flats T.kids).length) (0, 0) = (T.op, T.n) := by
      rw [flat_eq]
      exact getD_mid pre post (T.op, T.n) (flats T.kids) _ rfl
    have hop := numOK_op hg.num
    have hlast : chk (pre ++ T.flat ++ post) (pre.length + (flats T.kids).length) = (decide (1 ≤ T.op ∧ T.op ≤ 6) || (decide (T.op = 7) && ((T.kids[1]?).map fun k => k.op) == some 1)) := by
      unfold chk
      rw [hroot]
      by_cases h7 : T.op = 7
      · have har := hg.arity
        rw [h7] at har
        have hl : T.kids.length = 2 := by have : arity 7 = 2 := rfl; omega
        have hk : T.kids[1]? = some T.kids[1] := List.getElem?_eq_getElem (by omega)
        obtain ⟨l, hll⟩ := flats_single_last T.kids 1 hk (by omega)
        have hprev : (pre ++ T.flat ++ post).getD (pre.length + (flats T.kids).length - 1) (0, 0) = ((T.kids[1]).op, (T.kids[1]).n) := by
          have e : pre ++ T.flat ++ post = pre ++ (l ++ [((T.kids[1]).op, (T.kids[1]).n)]) ++ ([(T.op, T.n)] ++ post) := by rw [flat_eq, hll]; simp
          rw [e]
          exact getD_mid pre _ _ l _ (by rw [hll, List.length_append, List.length_singleton]; omega)
        rw [hprev, hk, h7]
        simp
        rw [Bool.eq_iff_iff]
        simp
      · simp only [h7]
        rw [Bool.eq_iff_iff]
        simp
        omega
    rw [ring_eq, Bool.and_eq_true, ← hlast, ← hall, ← hlist, hfl]
    constructor
    · intro h
      exact ⟨h _ (by omega) (by omega), fun i h1 h2 => h i h1 (by omega)⟩
    · rintro ⟨h1, h2⟩ i h3 h4
      by_cases c : i < pre.length + (flats T.kids).length
      · exact h2 i h3 c
      · have : i = pre.length + (flats T.kids).length := by omega
        rw [this]; exact h1
theorem shl_pos {T : Tr} (hg : Good T) : ∀ i : Nat, i < T.flat.length → (T.flat.getD i (0, 0)).1 = 7 → 1 ≤ i := by
  intro i hi h
  rcases Nat.eq_zero_or_pos i with e | e
  · subst e
    exfalso
    have : ∀ (n : Nat) (T : Tr), T.flat.length ≤ n → Good T → ∀ post, ((T.flat ++ post).getD 0 (0, 0)).1 ≠ 7 := by
      intro n
      induction n with
      | zero => intro T h; have := flat_pos T; omega
      | succ n ih =>
        intro T hsz hg post hc
        have hfl : T.flat.length = (flats T.kids).length + 1 := by rw [flat_eq]; simp
        match hk : T.kids with
        | [] =>
          rw [flat_eq, hk] at hc
          have hop : T.op = 7 := by simpa [flats] using hc
          have := hg.arity
          rw [hk, hop] at this
          have : arity 7 = 2 := rfl
          simp at *
          omega
        | x :: t =>
          rw [flat_eq, hk] at hc
          simp only [flats, List.append_assoc] at hc
          rw [hk] at hfl
          simp only [flats, List.length_append] at hfl
          exact ih x (by omega) (hg.kids x (by rw [hk]; exact List.mem_cons_self ..)) _ hc
    exact this T.flat.length T (Nat.le_refl _) hg [] (by rw [List.append_nil]; exact h)
  · exact e
end Go.Proofs.Ytlneknaiimmfmaa.Tree
