/- What a function can come to, reckoned out of a small table: plain lemmas for the closed facts of a row. No condition. -/
import Derived.JoinedOf
import Derived.KernelRfl
set_option linter.unusedVariables false
namespace Go.Proofs.Ytakblgcheakbnaa.Close
open Go
def leads (P : Program) (g : Nat) : List Nat := (P.funcs[g]?).elim [] P.leadsTo
def run (lead : Nat → List Nat) : Nat → List Nat → List Nat → Option (List Nat)
  | 0, [], seen => some seen.reverse
  | _ + 1, [], seen => some seen.reverse
  | 0, _ :: _, _ => none
  | n + 1, f :: todo, seen => if seen.contains f then run lead n todo seen else run lead n (lead f ++ todo) (f :: seen)
def tab (T : List (Nat × List Nat)) (g : Nat) : List Nat := (T.lookup g).getD []

theorem run_mem (lead : Nat → List Nat) : ∀ n todo seen L, run lead n todo seen = some L → ∀ x ∈ seen, x ∈ L := by
  intro n
  induction n with
  | zero =>
    intro todo seen L h x hx
    cases todo with
    | nil => simp only [run, Option.some.injEq] at h; subst h; simpa using hx
    | cons a t => simp [run] at h
  | succ n ih =>
    intro todo seen L h x hx
    cases todo with
    | nil => simp only [run, Option.some.injEq] at h; subst h; simpa using hx
    | cons a t =>
      simp only [run] at h
      split at h
      · exact ih _ _ _ h x hx
      · exact ih _ _ _ h x (List.mem_cons_of_mem _ hx)

theorem run_congr (l1 l2 : Nat → List Nat) (L : List Nat) (hl : ∀ x ∈ L, l1 x = l2 x) : ∀ n todo seen, run l1 n todo seen = some L → run l2 n todo seen = some L := by
  intro n
  induction n with
  | zero =>
    intro todo seen h
    cases todo with
    | nil => simpa [run] using h
    | cons a t => simp [run] at h
  | succ n ih =>
    intro todo seen h
    cases todo with
    | nil => simpa [run] using h
    | cons a t =>
      simp only [run] at h ⊢
      split at h
      · rename_i hc; rw [if_pos hc]; exact ih _ _ h
      · rename_i hc
        rw [if_neg hc]
        have ha : a ∈ L := run_mem l1 n _ _ L h a (List.mem_cons_self ..)
        rw [← hl a ha]
        exact ih _ _ h

theorem run_via (P : Program) : ∀ n todo seen L, run (leads P) n todo seen = some L → ∀ m, n ≤ m → P.closureVia m todo seen = L := by
  intro n
  induction n with
  | zero =>
    intro todo seen L h m hm
    cases todo with
    | nil =>
      simp only [run, Option.some.injEq] at h
      subst h
      cases m <;> simp [Program.closureVia]
    | cons a t => simp [run] at h
  | succ n ih =>
    intro todo seen L h m hm
    cases todo with
    | nil =>
      simp only [run, Option.some.injEq] at h
      subst h
      cases m <;> simp [Program.closureVia]
    | cons a t =>
      obtain ⟨m, rfl⟩ : ∃ k, m = k + 1 := ⟨m - 1, by omega⟩
      simp only [run] at h
      simp only [Program.closureVia]
      split at h
      · rename_i hc; rw [if_pos hc]; exact ih _ _ _ h m (by omega)
      · rename_i hc; rw [if_neg hc]; exact ih _ _ _ h m (by omega)

theorem sum_sub (w : Nat → Nat) : ∀ (n a : Nat) (S : List Nat), S.Pairwise (· < ·) → (∀ x ∈ S, a ≤ x ∧ x < a + n) → (S.map w).sum ≤ ((List.range' a n).map w).sum := by
  intro n
  induction n with
  | zero =>
    intro a S _ h
    cases S with
    | nil => simp
    | cons x t => have := h x (List.mem_cons_self ..); omega
  | succ n ih =>
    intro a S hp h
    simp only [List.range'_succ, List.map_cons, List.sum_cons]
    cases S with
    | nil => simp
    | cons x t =>
      rw [List.pairwise_cons] at hp
      have hx := h x (List.mem_cons_self ..)
      by_cases e : x = a
      · subst e
        have := ih (x + 1) t hp.2 (fun y hy => ⟨hp.1 y hy, by have := h y (List.mem_cons_of_mem _ hy); omega⟩)
        simp only [List.map_cons, List.sum_cons]
        omega
      · have := ih (a + 1) (x :: t) (List.pairwise_cons.2 hp) (fun y hy => by
          have h1 := h y hy
          rcases List.mem_cons.1 hy with rfl | hy'
          · omega
          · have := hp.1 y hy'; omega)
        omega

theorem total_eq (P : Program) : (P.funcs.toList.map fun g => (P.leadsTo g).length + 1).sum = ((List.range' 0 P.funcs.size).map fun i : Nat => (leads P i).length + (if i < P.funcs.size then 1 else 0)).sum := by
  congr 1
  apply List.ext_getElem
  · simp
  · intro i h1 h2
    have hi : i < P.funcs.size := by simpa using h1
    simp [leads, hi]

theorem closure_eq (P : Program) (f : Nat) (T : List (Nat × List Nat)) (L S : List Nat) (N : Nat)
    (hT : (L.all fun g => tab T g == leads P g) = true) (hrun : run (tab T) N [f] [] = some L)
    (hS : S.Pairwise (· < ·)) (hSL : (S.all fun g => L.contains g && decide (g < P.funcs.size)) = true)
    (hN : N ≤ 1 + (S.map fun g : Nat => (tab T g).length + 1).sum) : P.closure f = L := by
  have hl : ∀ x ∈ L, tab T x = leads P x := fun x hx => by simpa using List.all_eq_true.1 hT x hx
  refine run_via P N [f] [] L (run_congr _ _ L hl N [f] [] hrun) _ (Nat.le_trans hN ?_)
  rw [total_eq]
  have hs : ∀ x ∈ S, x ∈ L ∧ x < P.funcs.size := fun x hx => by
    have := List.all_eq_true.1 hSL x hx
    simp only [Bool.and_eq_true, decide_eq_true_eq, List.contains_iff_mem] at this
    exact this
  have h1 : (S.map fun g : Nat => (tab T g).length + 1) = S.map fun i : Nat => (leads P i).length + (if i < P.funcs.size then 1 else 0) := by
    apply List.map_congr_left
    intro x hx
    rw [hl x (hs x hx).1, if_pos (hs x hx).2]
  rw [h1]
  exact Nat.add_le_add_left (sum_sub (fun i : Nat => (leads P i).length + (if i < P.funcs.size then 1 else 0)) P.funcs.size 0 S hS (fun x hx => ⟨Nat.zero_le _, by rw [Nat.zero_add]; exact (hs x hx).2⟩)) 1

/-- What is come to stays within a set that is closed, and within a rank. -/
theorem via_inv (P : Program) (Q : Nat → Prop) (hQ : ∀ g, Q g → ∀ h ∈ leads P g, Q h) : ∀ m todo seen, (∀ x ∈ todo, Q x) → (∀ x ∈ seen, Q x) → ∀ x ∈ P.closureVia m todo seen, Q x := by
  intro m
  induction m with
  | zero =>
    intro todo seen _ hs x hx
    have : x ∈ seen := by cases todo <;> simpa [Program.closureVia] using hx
    exact hs x this
  | succ m ih =>
    intro todo seen ht hs x hx
    cases todo with
    | nil => exact hs x (by simpa [Program.closureVia] using hx)
    | cons a t =>
      simp only [Program.closureVia] at hx
      split at hx
      · exact ih t seen (fun y hy => ht y (List.mem_cons_of_mem _ hy)) hs x hx
      · refine ih _ (a :: seen) (fun y hy => ?_) (fun y hy => ?_) x hx
        · rcases List.mem_append.1 hy with h | h
          · exact hQ a (ht a (List.mem_cons_self ..)) y h
          · exact ht y (List.mem_cons_of_mem _ h)
        · rcases List.mem_cons.1 hy with rfl | h
          · exact ht _ (List.mem_cons_self ..)
          · exact hs y h

theorem recurses_false (P : Program) (f : Nat) (T : List (Nat × List Nat)) (L R : List Nat) (hT : (L.all fun g => tab T g == leads P g) = true) (hL : P.closure f = L) (hu : P.unfollowed f = false)
    (hR : (L.all fun g => (tab T g).all fun h => L.contains h && decide (R.idxOf h < R.idxOf g)) = true) : P.recurses f = false := by
  have hl : ∀ x ∈ L, tab T x = leads P x := fun x hx => by simpa using List.all_eq_true.1 hT x hx
  have hr : ∀ g ∈ L, ∀ h ∈ leads P g, h ∈ L ∧ R.idxOf h < R.idxOf g := fun g hg h hh => by
    have h1 := List.all_eq_true.1 hR g hg
    rw [hl g hg] at h1
    have h2 := List.all_eq_true.1 h1 h hh
    simpa using h2
  unfold Program.recurses
  rw [hu, hL, Bool.false_or]
  rw [List.any_eq_false]
  intro g hg
  rw [Bool.not_eq_true, List.any_eq_false]
  intro h hh
  have hh' : h ∈ leads P g := hh
  have hgh := hr g hg h hh'
  rw [Bool.not_eq_true]
  cases hc : (P.closure h).contains g with
  | false => rfl
  | true =>
    have hm : g ∈ P.closure h := by simpa using hc
    have := via_inv P (fun x => x ∈ L ∧ R.idxOf x ≤ R.idxOf h) (fun x hx y hy => ⟨(hr x hx.1 y hy).1, by have := (hr x hx.1 y hy).2; omega⟩) _ [h] [] (fun x hx => by simp at hx; subst hx; exact ⟨hgh.1, Nat.le_refl _⟩) (fun x hx => by simp at hx) g hm
    omega
theorem recurses_true (P : Program) (f : Nat) (hu : P.unfollowed f = true) : P.recurses f = true := by
  unfold Program.recurses
  rw [hu]; rfl
theorem via_seen (P : Program) : ∀ m todo seen x, x ∈ seen → x ∈ P.closureVia m todo seen := by
  intro m
  induction m with
  | zero => intro todo seen x hx; cases todo <;> simpa [Program.closureVia] using hx
  | succ m ih =>
    intro todo seen x hx
    cases todo with
    | nil => simpa [Program.closureVia] using hx
    | cons a t =>
      simp only [Program.closureVia]
      split
      · exact ih _ _ x hx
      · exact ih _ _ x (List.mem_cons_of_mem _ hx)
/-- A function that calls itself. -/
theorem recurses_self (P : Program) (f g : Nat) (T : List (Nat × List Nat)) (L : List Nat) (hT : (L.all fun g => tab T g == leads P g) = true) (hL : P.closure f = L) (hg : L.contains g = true) (hs : (tab T g).contains g = true) : P.recurses f = true := by
  have hgL : g ∈ L := by simpa using hg
  have hl : tab T g = leads P g := by simpa using List.all_eq_true.1 hT g hgL
  unfold Program.recurses
  rw [hL]
  refine Bool.or_eq_true_iff.2 (.inr ?_)
  rw [List.any_eq_true]
  refine ⟨g, hgL, ?_⟩
  rw [List.any_eq_true]
  refine ⟨g, ?_, ?_⟩
  · rw [hl] at hs
    have hs' : g ∈ leads P g := by simpa using hs
    exact hs'
  · have : g ∈ P.closure g := by
      unfold Program.closure
      rw [Nat.add_comm]
      simp only [Program.closureVia, List.contains_nil, Bool.false_eq_true, if_false]
      exact via_seen P _ _ _ g (List.mem_singleton.2 rfl)
    simpa using this
/-! The head's words: what the whole-program facts ask of them, without reading the head again. -/
theorem lifts_cut (R : List (List Char)) : stripLifts liftWords ("cut".toList :: R) = ([], "cut".toList :: R) := by
  have h : (liftWords.all fun o => !("cut".toList == o.toList)) = true := by kernel_rfl
  revert h
  generalize liftWords = l
  intro h
  induction l with
  | nil => rfl
  | cons a t ih =>
    simp only [List.all_cons, Bool.and_eq_true, Bool.not_eq_true'] at h
    unfold stripLifts
    rw [h.1, if_neg (by simp)]
    exact ih h.2
theorem make_cut (P : Program) (R : List (List Char)) (h : behindMainWord (wordsSigns P.initOrder.toList) = "cut".toList :: R) : P.make = some .cut := by
  unfold Program.make
  rw [h]
  have c1 : ("cut".toList == "gc".toList || "cut".toList == "spec".toList) = false := by kernel_rfl
  have c2 : ("cut".toList == "cut".toList) = true := by kernel_rfl
  simp only [c1, c2, Bool.true_or, if_true, Bool.false_eq_true, if_false]
theorem lifts_final (P : Program) (R : List (List Char)) (h : behindMainWord (wordsSigns P.initOrder.toList) = "cut".toList :: R) : P.liftsFinal = false := by
  unfold Program.liftsFinal Program.headLifts
  rw [h]
  have c1 : (some "cut".toList == some "carried".toList) = false := by kernel_rfl
  simp only [lifts_cut, List.head?_cons, c1, Bool.false_and, Bool.false_or]
  split <;> rfl
theorem may_enter (P : Program) (R : List (List Char)) (h : behindMainWord (wordsSigns P.initOrder.toList) = "cut".toList :: R) (hl : P.laysLater = false) (hb : P.bearsReflect = false) (hd : P.doorFits [] = true) : P.mayEnter = true := by
  unfold Program.mayEnter
  rw [h]
  have c1 : ("cut".toList == "gc".toList || "cut".toList == "spec".toList) = false := by kernel_rfl
  have c2 : (some "cut".toList == some "cut".toList) = true := by kernel_rfl
  have c3 : ("cut".toList == "carried".toList) = false := by kernel_rfl
  simp only [lifts_cut, c1, c2, c3, hl, hb, hd, List.head?_cons, List.contains_nil, Bool.false_and, Bool.false_or, Bool.not_false, Bool.or_true, Bool.and_true]
end Go.Proofs.Ytakblgcheakbnaa.Close
