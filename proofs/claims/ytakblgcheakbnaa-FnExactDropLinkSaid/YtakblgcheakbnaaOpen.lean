/- What can be read at a type reads as a kind says: for the rows of laws over structs and slices of structs. No condition. -/
import Derived.Deep.Slices
import Derived.ChangeArms
import Derived.WideShapes
import Derived.Test.YtakblgcheakbnaaWMore
set_option linter.unusedVariables false
namespace Go.Proofs.Ytakblgcheakbnaa.Open
open Go Go.ChangeShapes Go.WideShapes Go.Deep Go.RowKit Go.Proofs.YtakblgcheakbnaaW.PrintWords
section
variable {H : Type} {enc : TypeId × Value → H} {P : Program} {w : World} {spare : Nat → Bool} {held : Bool} {α β : Type}
def Reads {H : Type} (enc : TypeId × Value → H) (P : Program) (w : World) (spare : Nat → Bool) (held : Bool) (t : TypeId) {α : Type} (d : Kd α) (ok : α → Prop) : Prop :=
  ∀ (fuel : Nat) (cs : List Value) (x : DataW H × List MemPlace), DataW.trod enc P w 0 spare held fuel t cs = some x → ∃ a, d.K w a cs ∧ ok a
theorem reads_int {t : TypeId} {k : IntKind} (ht : P.underlying t = some (.int k)) : Reads enc P w spare held t (Kd.int k) (fun n => (Lit.int k n).wf = true) := by
  intro fuel cs x h
  obtain ⟨n, rfl, _, hw⟩ := DataW.trod_int ht h
  exact ⟨n, rfl, hw⟩
theorem reads_bool {t : TypeId} (ht : P.underlying t = some .bool) : Reads enc P w spare held t Kd.bool (fun _ => True) := by
  intro fuel cs x h
  obtain ⟨b, rfl, _⟩ := DataW.trod_bool ht h
  exact ⟨b, rfl, trivial⟩
theorem cells_at {a : Addr} {s : Nat} {cs : List Value} (h : w.cells? 0 a s = some cs) : cs.length = s ∧ ∀ i u, cs[i]? = some u → w.cell? (a.add i) = some u := by
  obtain ⟨_, hl, hat⟩ := World.cells?_some h
  refine ⟨hl, fun i u hu => ?_⟩
  have hi : i < cs.length := (List.getElem?_eq_some_iff.1 hu).1
  rw [hat i (by omega), hu]
theorem reads_slice {t e : TypeId} {d : Kd α} {ok : α → Prop} (ht : P.underlying t = some (.slice e)) (hC : P.cellsOf e = d.sz) (hr : Reads enc P w spare held e d ok) :
    Reads enc P w spare held t (Kd.slice e d) (fun l => l.length ≤ 9223372036854775807 ∧ ∀ a ∈ l, ok a) := by
  intro fuel cs x h
  rcases open_slice ht h with ⟨rfl, _⟩ | ⟨a, len, cap, m, n, D, Pl, rfl, hb, hl, hm, hmm, hx, hi⟩
  · exact ⟨[], ⟨none, 0, rfl, Nat.le_refl _, Kd.C_nil _ _⟩, by simp, fun a ha => by simp at ha⟩
  · have hlm : len ≤ m := by rw [hmm]; split <;> omega
    have each : ∀ i, i < len → ∃ y : α, ∃ c : List Value, c.length = d.sz ∧ d.K w y c ∧ ok y ∧ ∀ j u, c[j]? = some u → w.cell? (a.add (i * d.sz + j)) = some u := by
      intro i hil
      obtain ⟨cs', hc, ht'⟩ := hi i (by omega)
      rw [hC] at hc
      obtain ⟨hcl, hat⟩ := cells_at hc
      obtain ⟨y, hK, hok⟩ := hr n cs' _ ht'
      exact ⟨y, cs', hcl, hK, hok, fun j u hu => by rw [← hat j u hu, Go.Deep.add_add]⟩
    have all : ∀ m, m ≤ len → ∃ ys : List α, ys.length = m ∧ ∀ i y, ys[i]? = some y → ∃ c : List Value, c.length = d.sz ∧ d.K w y c ∧ ok y ∧ ∀ j u, c[j]? = some u → w.cell? (a.add (i * d.sz + j)) = some u := by
      intro m
      induction m with
      | zero => intro _; exact ⟨[], rfl, fun i y hy => by simp at hy⟩
      | succ m ih =>
        intro hm'
        obtain ⟨ys, hy, hys⟩ := ih (by omega)
        obtain ⟨y, c, h1, h2, h3, h4⟩ := each m (by omega)
        refine ⟨ys ++ [y], by simp [hy], fun i z hz => ?_⟩
        by_cases hi' : i < ys.length
        · rw [List.getElem?_append_left hi'] at hz
          exact hys i z hz
        · have : i = m := by
            have := (List.getElem?_eq_some_iff.1 hz).1
            simp at this
            omega
          subst this
          rw [List.getElem?_append_right (by omega), hy] at hz
          simp at hz
          subst hz
          exact ⟨c, h1, h2, h3, h4⟩
    obtain ⟨ys, hy, hys⟩ := all len (Nat.le_refl _)
    subst hy
    have hmx : ys.length ≤ 9223372036854775807 := by
      have : maxLen = 9223372036854775807 := by decide
      omega
    refine ⟨ys, ⟨some a, cap, rfl, hl, rfl, hmx, fun _ => ⟨a, rfl, fun i y hiy => ?_⟩⟩, hmx, fun y hmem => ?_⟩
    · obtain ⟨c, h1, h2, _, h4⟩ := hys i y hiy
      exact ⟨c, h1, h2, h4⟩
    · obtain ⟨i, hi', rfl⟩ := List.getElem_of_mem hmem
      obtain ⟨_, _, _, h3, _⟩ := hys i _ (List.getElem?_eq_getElem hi')
      exact h3
theorem field {t : TypeId} {fs : Array Field} {fuel : Nat} {cs : List Value} {x : DataW H × List MemPlace} (ht : P.underlying t = some (.struct fs)) (h : DataW.trod enc P w 0 spare held fuel t cs = some x) :
    cs.length = P.cellsOf t ∧ ∀ {γ : Type} (i : Nat) (f : Field) (o s : Nat) (d : Kd γ) (ok : γ → Prop), fs[i]? = some f → f.offset = o → P.cellsOf f.type = s → Reads enc P w spare held f.type d ok → ∃ a, d.K w a ((cs.drop o).take s) ∧ ok a := by
  obtain ⟨xs, n, _, _, hl, hlen, hf⟩ := DataW.trod_struct ht h
  refine ⟨hl, fun {γ} i f o s d ok hfi ho hs hr => ?_⟩
  subst ho hs
  have hil : i < fs.size := (Array.getElem?_eq_some_iff.1 hfi).1
  have h1 := hf i f hfi
  rw [List.getElem?_eq_getElem (by omega)] at h1
  exact hr n _ _ h1
theorem one_int {k : IntKind} {a : Int} {c : Value} (h : (Kd.int k).K w a [c]) : c = .int k a := by
  have : [c] = [Value.int k a] := h
  simpa using this
theorem one_bool {a : Bool} {c : Value} (h : Kd.bool.K w a [c]) : c = .bool a := by
  have : [c] = [Value.bool a] := h
  simpa using this
theorem one_slice {e : Nat} {d : Kd α} {l : List α} {c : Value} (h : (Kd.slice e d).K w l [c]) : ∃ A n, c = .slice A l.length n ∧ l.length ≤ n ∧ d.C w A l.length l := by
  obtain ⟨A, n, hc, hn, hC⟩ := h
  exact ⟨A, n, by simpa using hc, hn, hC⟩
theorem of_trod {t : TypeId} {v : Value} {D : DataW H} {p : List MemPlace} {d : Kd α} {ok : α → Prop} (hr : Reads enc P w spare held t d ok) (h : DataW.Trod enc P w 0 spare held t v D p) : ∃ a, d.K w a v.cells.toList ∧ ok a := by
  obtain ⟨fuel, hf⟩ := h
  exact hr fuel _ _ hf
end
end Go.Proofs.Ytakblgcheakbnaa.Open
