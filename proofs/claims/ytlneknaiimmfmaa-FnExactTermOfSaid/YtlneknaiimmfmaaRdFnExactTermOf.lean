/- What the arguments of FnExactTermOf read as, and the pure statement that is left of it. No condition. -/
import Derived.Test.YtlneknaiimmfmaaPFnExactTermOfx9
import Derived.Test.YtlneknaiimmfmaaOpen
import Derived.KernelRfl
set_option linter.unusedVariables false
namespace Go.Proofs.Ytlneknaiimmfmaa.RdFnExactTermOf
open Go Go.ChangeShapes Go.WideShapes Go.RowKit Go.Proofs.YtlneknaiimmfmaaW.PrintWords Go.Proofs.Ytlneknaiimmfmaa.PFnExactTermOf
def ok100 (x : S100) : Prop := (fun l => l.length ≤ 9223372036854775807 ∧ ∀ a ∈ l, (fun n => (Lit.int .i64 n).wf = true) a) x.f0 ∧ (fun n => (Lit.int .i64 n).wf = true) x.f1
theorem reads100 {H : Type} {enc : TypeId × Value → H} {w : World} {spare : Nat → Bool} {held : Bool} : Open.Reads enc Try.prog w spare held 100 k100 ok100 := by
  intro fuel cs x h
  obtain ⟨hl, hf⟩ := Open.field Try.underlying100 h
  have hl' : cs.length = 2 := hl.trans (by kernel_rfl)
  obtain ⟨a0, k0, o0⟩ := hf 0 _ 0 1 (Kd.slice 3 (Kd.int .i64)) (fun l => l.length ≤ 9223372036854775807 ∧ ∀ a ∈ l, (fun n => (Lit.int .i64 n).wf = true) a) rfl rfl (by kernel_rfl) (Open.reads_slice Try.underlying53 (by kernel_rfl) (Open.reads_int Try.underlying3))
  obtain ⟨a1, k1, o1⟩ := hf 1 _ 1 1 (Kd.int .i64) (fun n => (Lit.int .i64 n).wf = true) rfl rfl (by kernel_rfl) (Open.reads_int Try.underlying2)
  match cs, hl' with
  | [c0, c1], _ =>
    obtain ⟨A0, n0, rfl, l0, g0⟩ := Open.one_slice (show (Kd.slice 3 (Kd.int .i64)).K w a0 [c0] from k0)
    obtain rfl := Open.one_int (show (Kd.int .i64).K w a1 [c1] from k1)
    exact ⟨⟨a0, a1⟩, k100_mk w ⟨a0, a1⟩ l0 g0, o0, o1⟩
/-- The one pure statement of the law. -/
def Pure : Prop := ∀ (l0 : List S100), l0.length ≤ 9223372036854775807 → (fun l => l.length ≤ 9223372036854775807 ∧ ∀ a ∈ l, ok100 a) l0 → ∃ k, laws_FnExactTermOf.f k l0 = some true
end Go.Proofs.Ytlneknaiimmfmaa.RdFnExactTermOf
