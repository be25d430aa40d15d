/- What the arguments of FnExactReplaceAt read as, and the pure statement that is left of it. No condition. -/
import Derived.Test.YtlneknaiimmfmaaPFnExactReplaceAtx5
import Derived.Test.YtlneknaiimmfmaaOpen
import Derived.KernelRfl
set_option linter.unusedVariables false
namespace Go.Proofs.Ytlneknaiimmfmaa.RdFnExactReplaceAt
open Go Go.ChangeShapes Go.WideShapes Go.RowKit Go.Proofs.YtlneknaiimmfmaaW.PrintWords Go.Proofs.Ytlneknaiimmfmaa.PFnExactReplaceAt
def ok90 (x : S90) : Prop := (fun n => (Lit.int .i64 n).wf = true) x.f0 ∧ (fun n => (Lit.int .i64 n).wf = true) x.f1
theorem reads90 {H : Type} {enc : TypeId × Value → H} {w : World} {spare : Nat → Bool} {held : Bool} : Open.Reads enc Try.prog w spare held 90 k90 ok90 := by
  intro fuel cs x h
  obtain ⟨hl, hf⟩ := Open.field Try.underlying90 h
  have hl' : cs.length = 2 := hl.trans (by kernel_rfl)
  obtain ⟨a0, k0, o0⟩ := hf 0 _ 0 1 (Kd.int .i64) (fun n => (Lit.int .i64 n).wf = true) rfl rfl (by kernel_rfl) (Open.reads_int Try.underlying3)
  obtain ⟨a1, k1, o1⟩ := hf 1 _ 1 1 (Kd.int .i64) (fun n => (Lit.int .i64 n).wf = true) rfl rfl (by kernel_rfl) (Open.reads_int Try.underlying2)
  match cs, hl' with
  | [c0, c1], _ =>
    obtain rfl := Open.one_int (show (Kd.int .i64).K w a0 [c0] from k0)
    obtain rfl := Open.one_int (show (Kd.int .i64).K w a1 [c1] from k1)
    exact ⟨⟨a0, a1⟩, k90_mk w ⟨a0, a1⟩, o0, o1⟩
/-- The one pure statement of the law. -/
def Pure : Prop := ∀ (l0 : List S90) (a1 : Int) (l2 : List S90), l0.length ≤ 9223372036854775807 → (fun l => ∀ a ∈ l, ok90 a) l0 → (Lit.int .i64 a1).wf = true → l2.length ≤ 9223372036854775807 → (fun l => ∀ a ∈ l, ok90 a) l2 → ∃ k, laws_FnExactReplaceAt.f k l0 a1 l2 = some true
end Go.Proofs.Ytlneknaiimmfmaa.RdFnExactReplaceAt
