/- What the arguments of FnExactPutAll read as, and the pure statement that is left of it. No condition. -/
import Derived.Test.YtlneknaiimmfmaaPFnExactPutAllx5
import Derived.Test.YtlneknaiimmfmaaOpen
import Derived.KernelRfl
set_option linter.unusedVariables false
namespace Go.Proofs.Ytlneknaiimmfmaa.RdFnExactPutAll
open Go Go.ChangeShapes Go.WideShapes Go.RowKit Go.Proofs.YtlneknaiimmfmaaW.PrintWords Go.Proofs.Ytlneknaiimmfmaa.PFnExactPutAll
def ok90 (x : S90) : Prop := (fun n => (Lit.int .i64 n).wf = true) x.f0 ∧ (fun n => (Lit.int .i64 n).wf = true) x.f1
theorem reads90 {H : Type} {enc : TypeId × Value → H} {w : World} {spare : Nat → Bool} {held : Bool} : Open.Reads enc Try.prog w spare held 90 k90 ok90 := by
  intro fuel cs x h
  obtain ⟨hl, hf⟩ := Open.field Try.underlying90 h
  have hl' : cs.length = 2 := hl.trans (by kernel_rfl)
  obtain ⟨a0, k0, o0⟩ := hf 0 _ 0 1 (Kd.int .i64) (fun n => (Lit.int .i64 n).wf = true) rfl rfl (by kernel_rfl) (Open.reads_int Try.underlying3)
  obtain ⟨a1, k1, o1⟩ := hf 1 _ 1 1 (Kd.int .i64) (fun n => (Lit.int .i64 n).wf = true) rfl rfl (by kernel_rfl) (Open.reads_int Try.underlying2)
  match cs, hl' with
  | [c0, c1], _ =>
    obtain rfl := Open.one_int (show (Kd.int .i64).K w a0 [c0] from k0)
    obtain rfl := Open.one_int (show (Kd.int .i64).K w a1 [c1] from k1)
    exact ⟨⟨a0, a1⟩, k90_mk w ⟨a0, a1⟩, o0, o1⟩
/-- The one pure statement of the law. -/
def Pure : Prop := ∀ (l0 : List S90) (l1 : List (List S90)), l0.length ≤ 9223372036854775807 → (fun l => l.length ≤ 9223372036854775807 ∧ ∀ a ∈ l, ok90 a) l0 → l1.length ≤ 9223372036854775807 → (fun l => l.length ≤ 9223372036854775807 ∧ ∀ a ∈ l, (fun l => l.length ≤ 9223372036854775807 ∧ ∀ a ∈ l, ok90 a) a) l1 → ∃ k, laws_FnExactPutAll.f k l0 l1 = some true
end Go.Proofs.Ytlneknaiimmfmaa.RdFnExactPutAll
