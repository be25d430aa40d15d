/- What the arguments of FnExactClosed read as, and the pure statement that is left of it. No condition. -/
import Derived.Test.YtakblgcheakbnaaPFnExactClosedx8
import Derived.Test.YtakblgcheakbnaaOpen
import Derived.KernelRfl
set_option linter.unusedVariables false
namespace Go.Proofs.Ytakblgcheakbnaa.RdFnExactClosed
open Go Go.ChangeShapes Go.WideShapes Go.RowKit Go.Proofs.YtakblgcheakbnaaW.PrintWords Go.Proofs.Ytakblgcheakbnaa.PFnExactClosed
def ok130 (x : S130) : Prop := (fun n => (Lit.int .i64 n).wf = true) x.f0 ∧ (fun n => (Lit.int .i64 n).wf = true) x.f1 ∧ (fun l => l.length ≤ 9223372036854775807 ∧ ∀ a ∈ l, (fun n => (Lit.int .i64 n).wf = true) a) x.f2
theorem reads130 {H : Type} {enc : TypeId × Value → H} {w : World} {spare : Nat → Bool} {held : Bool} : Open.Reads enc Try.prog w spare held 130 k130 ok130 := by
  intro fuel cs x h
  obtain ⟨hl, hf⟩ := Open.field Try.underlying130 h
  have hl' : cs.length = 3 := hl.trans (by kernel_rfl)
  obtain ⟨a0, k0, o0⟩ := hf 0 _ 0 1 (Kd.int .i64) (fun n => (Lit.int .i64 n).wf = true) rfl rfl (by kernel_rfl) (Open.reads_int Try.underlying3)
  obtain ⟨a1, k1, o1⟩ := hf 1 _ 1 1 (Kd.int .i64) (fun n => (Lit.int .i64 n).wf = true) rfl rfl (by kernel_rfl) (Open.reads_int Try.underlying2)
  obtain ⟨a2, k2, o2⟩ := hf 2 _ 2 1 (Kd.slice 3 (Kd.int .i64)) (fun l => l.length ≤ 9223372036854775807 ∧ ∀ a ∈ l, (fun n => (Lit.int .i64 n).wf = true) a) rfl rfl (by kernel_rfl) (Open.reads_slice Try.underlying23 (by kernel_rfl) (Open.reads_int Try.underlying3))
  match cs, hl' with
  | [c0, c1, c2], _ =>
    obtain rfl := Open.one_int (show (Kd.int .i64).K w a0 [c0] from k0)
    obtain rfl := Open.one_int (show (Kd.int .i64).K w a1 [c1] from k1)
    obtain ⟨A2, n2, rfl, l2, g2⟩ := Open.one_slice (show (Kd.slice 3 (Kd.int .i64)).K w a2 [c2] from k2)
    exact ⟨⟨a0, a1, a2⟩, k130_mk w ⟨a0, a1, a2⟩ l2 g2, o0, o1, o2⟩
/-- The one pure statement of the law. -/
def Pure : Prop := ∀ (l0 : List S130) (l1 : List Int), l0.length ≤ 9223372036854775807 → (fun l => l.length ≤ 9223372036854775807 ∧ ∀ a ∈ l, ok130 a) l0 → l1.length ≤ 9223372036854775807 → (fun l => l.length ≤ 9223372036854775807 ∧ ∀ a ∈ l, (fun n => (Lit.int .i64 n).wf = true) a) l1 → ∃ k, laws_FnExactClosed.f k l0 l1 = some true
end Go.Proofs.Ytakblgcheakbnaa.RdFnExactClosed
