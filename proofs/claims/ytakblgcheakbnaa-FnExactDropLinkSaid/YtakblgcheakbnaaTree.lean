/- Trees of nodes in memory: what a pointer to one leads to; and terms as trees, in plain words. No condition. -/
import Derived.Test.YtakblgcheakbnaaGen
set_option linter.unusedVariables false
namespace Go.Proofs.Ytakblgcheakbnaa.Tree
open Go Go.RowKit Go.Proofs.YtakblgcheakbnaaW.PrintWords
/-- A term as a tree. -/
inductive Tr where
  | mk (op n : Int) (kids : List Tr) : Tr
def Tr.op : Tr → Int | .mk o _ _ => o
def Tr.n : Tr → Int | .mk _ n _ => n
def Tr.kids : Tr → List Tr | .mk _ _ k => k
def nowhere : Addr := ⟨0, 0, none⟩
/-- Pointers as elements. -/
def ptrK : Kd Addr := Kd.scalar (fun a => Value.pointer (some a)) (fun _ => rfl)
def TreeAt (w : World) (ok : Nat → Prop) : Nat → Tr → Addr → Prop
  | 0, _, _ => False
  | d + 1, T, a => ∃ (g : Nat) (A : Option Addr) (c : Nat) (as : List Addr), a = ⟨g, 0, none⟩ ∧ w.cell? ⟨g, 0, none⟩ = some (.int .i64 T.op) ∧ w.cell? ⟨g, 1, none⟩ = some (.int .i64 T.n) ∧
      w.cell? ⟨g, 2, none⟩ = some (.slice A T.kids.length c) ∧ as.length = T.kids.length ∧ T.kids.length ≤ c ∧ ptrK.C w A T.kids.length as ∧ (∀ i (h : i < T.kids.length), TreeAt w ok d T.kids[i] (as.getD i nowhere)) ∧
      ok g ∧ (0 < T.kids.length → ∀ x, A = some x → ok x.block)
/-- What a pointer to a tree leads to; every block of it is as ok says. -/
def Tree (w : World) (ok : Nat → Prop) (T : Tr) (a : Addr) : Prop := ∃ d, TreeAt w ok d T a
variable {ok ok' : Nat → Prop}
theorem TreeAt.below {w w' : World} (hb : Below w.heap.size w w') : ∀ d T a, TreeAt w ok d T a → TreeAt w' ok d T a := by
  intro d
  induction d with
  | zero => intro T a h; exact h
  | succ d ih =>
    rintro T a ⟨g, A, c, as, h1, h2, h3, h4, h5, h6, h7, h8, h9⟩
    exact ⟨g, A, c, as, h1, pw_cell_below hb h2, pw_cell_below hb h3, pw_cell_below hb h4, h5, h6, Kd.C_below h7 hb, fun i hi => ih _ _ (h8 i hi), h9⟩
theorem Tree.below {w w' : World} {T : Tr} {a : Addr} (h : Tree w ok T a) (hb : Below w.heap.size w w') : Tree w' ok T a := by
  obtain ⟨d, h⟩ := h
  exact ⟨d, TreeAt.below hb d T a h⟩
theorem TreeAt.imp {w : World} (hk : ∀ k, ok k → ok' k) : ∀ d T a, TreeAt w ok d T a → TreeAt w ok' d T a := by
  intro d
  induction d with
  | zero => intro T a h; exact h
  | succ d ih =>
    rintro T a ⟨g, A, c, as, h1, h2, h3, h4, h5, h6, h7, h8, h9, h10⟩
    exact ⟨g, A, c, as, h1, h2, h3, h4, h5, h6, h7, fun i hi => ih _ _ (h8 i hi), hk _ h9, fun h0 x hx => hk _ (h10 h0 x hx)⟩
theorem Tree.imp {w : World} {T : Tr} {a : Addr} (h : Tree w ok T a) (hk : ∀ k, ok k → ok' k) : Tree w ok' T a := by
  obtain ⟨d, h⟩ := h
  exact ⟨d, TreeAt.imp hk d T a h⟩
theorem add_block (a : Addr) (j : Nat) : (a.add j).block = a.block := by unfold Addr.add; split <;> rfl
theorem cell_same {w w' : World} {a : Addr} (h : w'.heap[a.block]? = w.heap[a.block]?) : w'.cell? a = w.cell? a := by unfold World.cell?; rw [h]
theorem TreeAt.move {w w' : World} (hm : ∀ k, ok k → w'.heap[k]? = w.heap[k]?) : ∀ d T a, TreeAt w ok d T a → TreeAt w' ok d T a := by
  intro d
  induction d with
  | zero => intro T a h; exact h
  | succ d ih =>
    rintro T a ⟨g, A, c, as, h1, h2, h3, h4, h5, h6, h7, h8, h9, h10⟩
    have hc : ∀ i v, w.cell? ⟨g, i, none⟩ = some v → w'.cell? ⟨g, i, none⟩ = some v := fun i v h => by rw [cell_same (hm g h9)]; exact h
    refine ⟨g, A, c, as, h1, hc _ _ h2, hc _ _ h3, hc _ _ h4, h5, h6, ⟨h7.1, h7.2.1, fun h0 => ?_⟩, fun i hi => ih _ _ (h8 i hi), h9, h10⟩
    obtain ⟨ad, e, hcell⟩ := h7.2.2 h0
    refine ⟨ad, e, fun j p hj => ?_⟩
    obtain ⟨cc, e1, e2, e3⟩ := hcell j p hj
    refine ⟨cc, e1, e2, fun i u hu => ?_⟩
    have hx := cell_same (w := w) (w' := w') (a := ad.add (j * ptrK.sz + i)) (by rw [add_block]; exact hm _ (h10 h0 ad e))
    rw [hx]
    exact e3 i u hu
theorem Tree.move {w w' : World} {T : Tr} {a : Addr} (h : Tree w ok T a) (hm : ∀ k, ok k → w'.heap[k]? = w.heap[k]?) : Tree w' ok T a := by
  obtain ⟨d, h⟩ := h
  exact ⟨d, TreeAt.move hm d T a h⟩
theorem TreeAt.bound {w : World} : ∀ d T a, TreeAt w ok d T a → TreeAt w (fun k => ok k ∧ k < w.heap.size) d T a := by
  intro d
  induction d with
  | zero => intro T a h; exact h
  | succ d ih =>
    rintro T a ⟨g, A, c, as, h1, h2, h3, h4, h5, h6, h7, h8, h9, h10⟩
    refine ⟨g, A, c, as, h1, h2, h3, h4, h5, h6, h7, fun i hi => ih _ _ (h8 i hi), ⟨h9, World.block_lt_of_cell? w _ h2⟩, fun h0 x hx => ⟨h10 h0 x hx, ?_⟩⟩
    obtain ⟨ad, e, hcell⟩ := h7.2.2 h0
    rw [hx] at e
    injection e with e
    subst e
    obtain ⟨cc, e1, e2, e3⟩ := hcell 0 _ (List.getElem?_eq_getElem (by omega))
    have e4 : cc[0]? = some (cc[0]'(by rw [e1]; exact Nat.zero_lt_one)) := List.getElem?_eq_getElem _
    have := World.block_lt_of_cell? w _ (e3 0 _ e4)
    rwa [add_block] at this
theorem Tree.bound {w : World} {T : Tr} {a : Addr} (h : Tree w ok T a) : Tree w (fun k => ok k ∧ k < w.heap.size) T a := by
  obtain ⟨d, h⟩ := h
  exact ⟨d, TreeAt.bound d T a h⟩
theorem TreeAt.more {w : World} : ∀ d T a, TreeAt w ok d T a → TreeAt w ok (d + 1) T a := by
  intro d
  induction d with
  | zero => intro T a h; exact h.elim
  | succ d ih =>
    rintro T a ⟨g, A, c, as, h1, h2, h3, h4, h5, h6, h7, h8, h9⟩
    exact ⟨g, A, c, as, h1, h2, h3, h4, h5, h6, h7, fun i hi => ih _ _ (h8 i hi), h9⟩
theorem TreeAt.up {w : World} {d e : Nat} {T : Tr} {a : Addr} (h : TreeAt w ok d T a) (hde : d ≤ e) : TreeAt w ok e T a := by
  induction hde with
  | refl => exact h
  | step _ ih => exact TreeAt.more _ _ _ ih
/-- Rows of pointers to trees. -/
def Trees (w : World) (ok : Nat → Prop) (Ts : List Tr) (as : List Addr) : Prop := as.length = Ts.length ∧ ∀ i (h : i < Ts.length), Tree w ok Ts[i] (as.getD i nowhere)
theorem Trees.nil (w : World) : Trees w ok [] [] := ⟨rfl, fun i h => absurd h (Nat.not_lt_zero _)⟩
theorem Trees.below {w w' : World} {Ts : List Tr} {as : List Addr} (h : Trees w ok Ts as) (hb : Below w.heap.size w w') : Trees w' ok Ts as := ⟨h.1, fun i hi => (h.2 i hi).below hb⟩
theorem Trees.imp {w : World} {Ts : List Tr} {as : List Addr} (h : Trees w ok Ts as) (hk : ∀ k, ok k → ok' k) : Trees w ok' Ts as := ⟨h.1, fun i hi => (h.2 i hi).imp hk⟩
theorem Trees.move {w w' : World} {Ts : List Tr} {as : List Addr} (h : Trees w ok Ts as) (hm : ∀ k, ok k → w'.heap[k]? = w.heap[k]?) : Trees w' ok Ts as := ⟨h.1, fun i hi => (h.2 i hi).move hm⟩
theorem Trees.bound {w : World} {Ts : List Tr} {as : List Addr} (h : Trees w ok Ts as) : Trees w (fun k => ok k ∧ k < w.heap.size) Ts as := ⟨h.1, fun i hi => (h.2 i hi).bound⟩
theorem Trees.snoc {w : World} {Ts : List Tr} {as : List Addr} {T : Tr} {a : Addr} (h : Trees w ok Ts as) (ha : Tree w ok T a) : Trees w ok (Ts ++ [T]) (as ++ [a]) := by
  refine ⟨by simp [h.1], fun i hi => ?_⟩
  by_cases hi' : i < Ts.length
  · rw [List.getElem_append_left hi', List.getD_eq_getElem?_getD, List.getElem?_append_left (by rw [h.1]; exact hi')]
    have := h.2 i hi'
    rwa [List.getD_eq_getElem?_getD] at this
  · have : i = Ts.length := by simp at hi; omega
    subst this
    rw [List.getElem_append_right (Nat.le_refl _), List.getD_eq_getElem?_getD, List.getElem?_append_right (by rw [h.1]; exact Nat.le_refl _), h.1]
    simpa using ha
theorem Trees.take {w : World} {Ts : List Tr} {as : List Addr} (h : Trees w ok Ts as) (m : Nat) : Trees w ok (Ts.take m) (as.take m) := by
  refine ⟨by simp [h.1], fun i hi => ?_⟩
  have h1 : i < m := by simp at hi; omega
  have h2 : i < Ts.length := by simp at hi; omega
  have := h.2 i h2
  rw [List.getElem_take]
  rw [List.getD_eq_getElem?_getD] at this ⊢
  rwa [List.getElem?_take_of_lt h1]
theorem Trees.drop {w : World} {Ts : List Tr} {as : List Addr} (h : Trees w ok Ts as) (m : Nat) : Trees w ok (Ts.drop m) (as.drop m) := by
  refine ⟨by simp [h.1], fun i hi => ?_⟩
  have h2 : m + i < Ts.length := by simp at hi; omega
  have := h.2 (m + i) h2
  rw [List.getElem_drop]
  rw [List.getD_eq_getElem?_getD] at this ⊢
  rwa [List.getElem?_drop]
theorem Trees.depth {w : World} {Ts : List Tr} {as : List Addr} (h : Trees w ok Ts as) : ∃ d, ∀ i (hi : i < Ts.length), TreeAt w ok d Ts[i] (as.getD i nowhere) := by
  have : ∀ m, m ≤ Ts.length → ∃ d, ∀ i (hi : i < Ts.length), i < m → TreeAt w ok d Ts[i] (as.getD i nowhere) := by
    intro m
    induction m with
    | zero => intro _; exact ⟨0, fun i _ h => absurd h (Nat.not_lt_zero _)⟩
    | succ m ih =>
      intro hm
      obtain ⟨d, hd⟩ := ih (by omega)
      obtain ⟨e, he⟩ := h.2 m (by omega)
      refine ⟨max d e, fun i hi him => ?_⟩
      by_cases c : i < m
      · exact (hd i hi c).up (Nat.le_max_left _ _)
      · have : i = m := by omega
        subst this
        exact he.up (Nat.le_max_right _ _)
  obtain ⟨d, hd⟩ := this Ts.length (Nat.le_refl _)
  exact ⟨d, fun i hi => hd i hi hi⟩
/-- A node over trees that are there. -/
theorem Tree.mk {w : World} {op n : Int} {Ts : List Tr} {as : List Addr} {g : Nat} {A : Option Addr} {c : Nat} (h0 : w.cell? ⟨g, 0, none⟩ = some (.int .i64 op)) (h1 : w.cell? ⟨g, 1, none⟩ = some (.int .i64 n))
    (h2 : w.cell? ⟨g, 2, none⟩ = some (.slice A Ts.length c)) (hc : Ts.length ≤ c) (hC : ptrK.C w A Ts.length as) (hk : Trees w ok Ts as) (hg : ok g) (hA : 0 < Ts.length → ∀ x, A = some x → ok x.block) : Tree w ok (.mk op n Ts) ⟨g, 0, none⟩ := by
  obtain ⟨d, hd⟩ := hk.depth
  exact ⟨d + 1, g, A, c, as, rfl, h0, h1, h2, hk.1, hc, hC, hd, hg, hA⟩
/-- What a tree's pointer leads to. -/
theorem Tree.open_ {w : World} {T : Tr} {a : Addr} (h : Tree w ok T a) : ∃ (g : Nat) (A : Option Addr) (c : Nat) (as : List Addr), a = ⟨g, 0, none⟩ ∧ w.cell? ⟨g, 0, none⟩ = some (.int .i64 T.op) ∧ w.cell? ⟨g, 1, none⟩ = some (.int .i64 T.n) ∧
      w.cell? ⟨g, 2, none⟩ = some (.slice A T.kids.length c) ∧ T.kids.length ≤ c ∧ ptrK.C w A T.kids.length as ∧ Trees w ok T.kids as := by
  obtain ⟨d, h⟩ := h
  cases d with
  | zero => exact h.elim
  | succ d =>
    obtain ⟨g, A, c, as, h1, h2, h3, h4, h5, h6, h7, h8, _⟩ := h
    exact ⟨g, A, c, as, h1, h2, h3, h4, h6, h7, h5, fun i hi => ⟨d, h8 i hi⟩⟩
/-! Terms as trees. -/
def arity (op : Int) : Int := if op = 1 ∨ op = 2 then 0 else if op = 3 then 1 else if op = 11 then 3 else 2
def numOK (op n : Int) : Bool := if op = 1 then true else if op = 2 then decide (0 ≤ n ∧ n < 4) else decide (1 ≤ op ∧ op ≤ 11 ∧ n = 0)
/-- One node more: the pile and all trees so far. -/
def step (s : List Tr × List Tr) (x : Int × Int) : Option (List Tr × List Tr) :=
  if numOK x.1 x.2 = true ∧ arity x.1 ≤ (s.1.length : Int) then
    some (s.1.take (s.1.length - (arity x.1).toNat) ++ [.mk x.1 x.2 (s.1.drop (s.1.length - (arity x.1).toNat))], s.2 ++ [.mk x.1 x.2 (s.1.drop (s.1.length - (arity x.1).toNat))])
  else none
def build : List (Int × Int) → List Tr × List Tr → Option (List Tr × List Tr)
  | [], s => some s
  | x :: t, s => (step s x).bind (build t)
/-- The trees of all nodes of a good term. -/
def treesOf (t : List (Int × Int)) : Option (List Tr) :=
  if 1 ≤ t.length ∧ t.length ≤ 40 then (build t ([], [])).bind fun s => if s.1.length = 1 then some s.2 else none else none
theorem arity_range (op : Int) : 0 ≤ arity op ∧ arity op ≤ 3 := by
  unfold arity
  by_cases h1 : op = 1 ∨ op = 2
  · rw [if_pos h1]; omega
  · rw [if_neg h1]
    by_cases h2 : op = 3
    · rw [if_pos h2]; omega
    · rw [if_neg h2]
      by_cases h3 : op = 11
      · rw [if_pos h3]; omega
      · rw [if_neg h3]; omega
theorem build_append (t1 t2 : List (Int × Int)) : ∀ s, build (t1 ++ t2) s = (build t1 s).bind (build t2) := by
  induction t1 with
  | nil => intro s; rfl
  | cons x t ih =>
    intro s
    show (step s x).bind (build (t ++ t2)) = ((step s x).bind (build t)).bind (build t2)
    cases step s x with
    | none => rfl
    | some s' => exact ih s'
theorem step_len {s s' : List Tr × List Tr} {x : Int × Int} (h : step s x = some s') : s'.1.length ≤ s.1.length + 1 ∧ s'.2.length = s.2.length + 1 := by
  unfold step at h
  split at h
  · injection h with h
    subst h
    refine ⟨?_, by simp⟩
    simp only [List.length_append, List.length_take, List.length_singleton]
    omega
  · exact absurd h (by simp)
theorem build_len : ∀ (t : List (Int × Int)) (s s' : List Tr × List Tr), build t s = some s' → s'.1.length ≤ s.1.length + t.length ∧ s'.2.length = s.2.length + t.length := by
  intro t
  induction t with
  | nil => intro s s' h; injection h with h; subst h; exact ⟨Nat.le_refl _, rfl⟩
  | cons x t ih =>
    intro s s' h
    have h : (step s x).bind (build t) = some s' := h
    cases hs : step s x with
    | none => rw [hs] at h; exact absurd h (by simp)
    | some s1 =>
      rw [hs] at h
      have h1 := ih s1 s' h
      have h2 := step_len hs
      rw [List.length_cons]
      omega
/-- A pointer of a row. -/
theorem ptr_at {w : World} {A : Option Addr} {n : Nat} {xs : List Addr} (h : ptrK.C w A n xs) (i : Nat) (hi : i < n) : ∃ ad, A = some ad ∧ w.cell? (ad.add i) = some (.pointer (some (xs.getD i nowhere))) := by
  have hl : xs.length = n := h.1
  obtain ⟨ad, e, hc⟩ := h.2.2 (by omega)
  refine ⟨ad, e, ?_⟩
  obtain ⟨cc, e1, e2, e3⟩ := hc i xs[i] (List.getElem?_eq_getElem (by omega))
  rw [List.getD_eq_getElem?_getD, List.getElem?_eq_getElem (by omega)]
  have hk : cc = [.pointer (some xs[i])] := e2
  have := e3 0 (.pointer (some xs[i])) (by rw [hk]; rfl)
  rw [show i * ptrK.sz + 0 = i from Nat.mul_one i] at this
  exact this
/-- A good term's tree. -/
def treeOf (t : List (Int × Int)) : Option Tr := (treesOf t).bind List.getLast?
end Go.Proofs.Ytakblgcheakbnaa.Tree
