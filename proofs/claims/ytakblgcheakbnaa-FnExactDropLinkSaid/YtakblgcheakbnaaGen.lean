/- Plain lemmas beside the printed words: where a predicate holds first. No condition. -/
import Derived.Test.YtakblgcheakbnaaWMore
set_option linter.unusedVariables false
namespace Go.Proofs.Ytakblgcheakbnaa.Gen
open Go.RowKit Go.Proofs.YtakblgcheakbnaaW.PrintWords
/-- Where a predicate holds first, or -1. -/
def idxP {α : Type} (p : α → Bool) (l : List α) : Int := match l.findIdx? p with | some i => (i : Int) | none => -1
theorem idxP_hit {α : Type} (p : α → Bool) (l : List α) (i : Nat) (hi : i < l.length) (hb : ∀ j (h : j < i), p (l[j]'(by omega)) = false) (hp : p l[i] = true) : idxP p l = (i : Int) := by
  unfold idxP
  have : l.findIdx? p = some i := by
    rw [List.findIdx?_eq_some_iff_getElem]
    exact ⟨hi, hp, fun j hj => by rw [hb j hj]; simp⟩
  rw [this]
theorem idxP_miss {α : Type} (p : α → Bool) (l : List α) (hb : ∀ j (h : j < l.length), p l[j] = false) : idxP p l = -1 := by
  unfold idxP
  have : l.findIdx? p = none := by
    rw [List.findIdx?_eq_none_iff]
    intro x hx
    obtain ⟨j, hj, rfl⟩ := List.getElem_of_mem hx
    exact hb j hj
  rw [this]
theorem idxP_hitD {α : Type} (p : α → Bool) (l : List α) (d : α) (i : Nat) (hi : i < l.length) (hb : ∀ j, j < i → p (l.getD j d) = false) (hp : p (l.getD i d) = true) : idxP p l = (i : Int) :=
  idxP_hit p l i hi (fun j h => by have := hb j h; rwa [List.getD_eq_getElem?_getD, List.getElem?_eq_getElem (by omega)] at this) (by rwa [List.getD_eq_getElem?_getD, List.getElem?_eq_getElem hi] at hp)
theorem idxP_missD {α : Type} (p : α → Bool) (l : List α) (d : α) (hb : ∀ j, j < l.length → p (l.getD j d) = false) : idxP p l = -1 :=
  idxP_miss p l (fun j h => by have := hb j h; rwa [List.getD_eq_getElem?_getD, List.getElem?_eq_getElem h] at this)
theorem idxP_any {α : Type} (p : α → Bool) (l : List α) : decide (idxP p l ≥ 0) = l.any p := by
  unfold idxP
  cases h : l.findIdx? p with
  | none =>
    rw [List.findIdx?_eq_none_iff] at h
    symm
    rw [show decide ((-1 : Int) ≥ 0) = false by decide, List.any_eq_false]
    intro x hx; simp [h x hx]
  | some i =>
    rw [List.findIdx?_eq_some_iff_getElem] at h
    obtain ⟨hi, hp, _⟩ := h
    symm
    have : decide (((i : Nat) : Int) ≥ 0) = true := by simp
    simp only [this]
    rw [List.any_eq_true]
    exact ⟨_, List.getElem_mem hi, hp⟩

end Go.Proofs.Ytakblgcheakbnaa.Gen
