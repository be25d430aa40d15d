/- Short names for what the walks ask again and again; each finds its ground among the hypotheses. No condition. -/
import Derived.Test.YtakblgcheakbnaaWMore
set_option linter.unusedVariables false
namespace Go.Proofs.Ytakblgcheakbnaa
open Go.RowKit Go.Proofs.YtakblgcheakbnaaW.PrintWords
theorem hbQ {b : Nat} {w W : World} (h : Below b w W := by repeat (first | (with_reducible first | exact Aside0.out (by assumption) | apply below_alloc | apply pw_below_drewN | apply below_drew1 | refine below_set ?_ (Aside0.out (by assumption))) | exact Aside0.out (by assumption) | exact Below.refl _ _)) : Below b w W := h
theorem bkQ {w : World} {g : Nat} {o : Obj} (h : w.heap[g]? = some o := by (with_reducible repeat (first | refine blk_drewN ?_ _ | refine blk_drew ?_ | refine blk_alloc ?_ _)); exact Aside0.out (by assumption)) : w.heap[g]? = some o := h
theorem odQ {p : Prop} [d : Decidable p] (h : decide p = true := by first | (with_reducible assumption) | assumption) : p := of_decide_eq_true h
theorem eqQ {α : Type} {a b : α} (h : a = b := by (try simp only [List.map_toArray, List.map_cons, List.map_nil]); first | done | rfl | (simp only [List.length_drop, List.length_take]; rfl)) : a = b := h
theorem gwQ {w W : World} {g : Nat} (hg : g = W.heap.size) (h : Below w.heap.size w W := by repeat (first | (with_reducible first | exact Aside0.out (by assumption) | apply below_alloc | apply pw_below_drewN | apply below_drew1 | refine below_set ?_ (Aside0.out (by assumption))) | exact Aside0.out (by assumption))) : w.heap.size ≤ g := by rw [hg]; exact h.size
theorem csQ {α : Type} {d : Kd α} {w W : World} {A : Option Addr} {n : Nat} {l : List α} (h : Aside0 (Kd.C d w A n l)) (hb : Below w.heap.size w W := by repeat (first | (with_reducible first | exact Aside0.out (by assumption) | apply below_alloc | apply pw_below_drewN | apply below_drew1 | refine below_set ?_ (Aside0.out (by assumption))) | exact Aside0.out (by assumption))) : Kd.C d W A n l := Kd.C_below h.out hb
end Go.Proofs.Ytakblgcheakbnaa
