/- Which variables a term notes, in plain words. No condition. -/
import Derived.Test.YtlneknaiimmfmaaTreeMore
set_option linter.unusedVariables false
namespace Go.Proofs.Ytlneknaiimmfmaa.Tree
open Go Go.RowKit
/-- The kids that are looked at. -/
def Tr.eff (sure : Bool) (T : Tr) : List Tr := if T.op = 11 ∧ sure = true then T.kids.take 1 else T.kids
mutual
/-- What is noted, in order. -/
def Tr.vs (sure : Bool) : Tr → List Int
  | .mk o n ks => if o = 2 then [n] else if o = 11 ∧ sure = true then vs1 sure ks else vss sure ks
def vss (sure : Bool) : List Tr → List Int
  | [] => []
  | k :: ks => k.vs sure ++ vss sure ks
def vs1 (sure : Bool) : List Tr → List Int
  | [] => []
  | k :: _ => k.vs sure
end
theorem vss_flat (sure : Bool) (ks : List Tr) : vss sure ks = ks.flatMap fun k => k.vs sure := by
  induction ks with
  | nil => simp [vss]
  | cons x t ih => simp [vss, ih]
theorem vs1_flat (sure : Bool) (ks : List Tr) : vs1 sure ks = (ks.take 1).flatMap fun k => k.vs sure := by
  cases ks with
  | nil => simp [vs1]
  | cons x t => simp [vs1]
theorem vs_eq (sure : Bool) (T : Tr) : T.vs sure = if T.op = 2 then [T.n] else (T.eff sure).flatMap fun k => k.vs sure := by
  cases T with
  | mk o n ks =>
    rw [Tr.vs, vss_flat, vs1_flat]
    show (if o = 2 then [n] else _) = if o = 2 then [n] else _
    by_cases h : o = 2
    · rw [if_pos h, if_pos h]
    · rw [if_neg h, if_neg h]
      unfold Tr.eff
      show _ = (if o = 11 ∧ sure = true then ks.take 1 else ks).flatMap _
      by_cases h2 : o = 11 ∧ sure = true
      · rw [if_pos h2, if_pos h2]
      · rw [if_neg h2, if_neg h2]
theorem eff_mem {sure : Bool} {T K : Tr} (h : K ∈ T.eff sure) : K ∈ T.kids := by
  unfold Tr.eff at h
  split at h
  · exact List.mem_of_mem_take h
  · exact h
/-- What is noted is a variable's number. -/
theorem vs_range (sure : Bool) : ∀ (n : Nat) (T : Tr), T.flat.length ≤ n → Good T → ∀ v ∈ T.vs sure, 0 ≤ v ∧ v < 4 := by
  intro n
  induction n with
  | zero => intro T h; have := flat_pos T; omega
  | succ n ih =>
    intro T hsz hg v hv
    have hf : T.flat.length = (flats T.kids).length + 1 := by rw [flat_eq]; simp
    rw [vs_eq] at hv
    by_cases h2 : T.op = 2
    · rw [if_pos h2] at hv
      have e : v = T.n := by simpa using hv
      have hn := hg.num
      rw [h2] at hn
      unfold numOK at hn
      rw [if_neg (by omega), if_pos rfl] at hn
      rw [e]
      exact of_decide_eq_true hn
    · rw [if_neg h2] at hv
      obtain ⟨K, hK, hv⟩ := List.mem_flatMap.1 hv
      have hm := eff_mem hK
      have := flats_len_mem hm
      exact ih K (by omega) (hg.kids K hm) v hv
/-- The notes that are made. -/
def note (bs : List Bool) (vs : List Int) : List Bool := vs.foldl (fun bs v => bs.set v.toNat true) bs
theorem note_append (bs : List Bool) (a b : List Int) : note bs (a ++ b) = note (note bs a) b := by unfold note; rw [List.foldl_append]
theorem note_len (vs : List Int) : ∀ bs : List Bool, (note bs vs).length = bs.length := by
  induction vs with
  | nil => intro bs; rfl
  | cons v t ih => intro bs; show (note (bs.set v.toNat true) t).length = _; rw [ih, List.length_set]
theorem note_get (vs : List Int) : ∀ (bs : List Bool) (i : Nat), i < bs.length → (∀ v ∈ vs, 0 ≤ v) → (note bs vs).getD i false = (bs.getD i false || vs.contains (i : Int)) := by
  induction vs with
  | nil => intro bs i _ _; simp [note]
  | cons v t ih =>
    intro bs i hi h
    show (note (bs.set v.toNat true) t).getD i false = _
    have h0 := h v (List.mem_cons_self ..)
    rw [ih _ i (by rw [List.length_set]; exact hi) (fun x hx => h x (List.mem_cons_of_mem _ hx)), List.contains_cons, List.getD_eq_getElem?_getD, List.getElem?_set, List.getD_eq_getElem?_getD]
    by_cases e : v.toNat = i
    · have e2 : ((i : Int) == v) = true := by simp; omega
      rw [if_pos e, if_pos (by omega), e2]
      simp
    · have e2 : ((i : Int) == v) = false := by simp; omega
      rw [if_neg e, e2, Bool.false_or]
end Go.Proofs.Ytlneknaiimmfmaa.Tree
