/- What the arguments of FnExactSameOutcome read as, and the pure statement that is left of it. No condition. -/
import Derived.Test.YtcckpcgmpmlioaaPFnExactSameOutcomex3
import Derived.Test.YtcckpcgmpmlioaaOpen
import Derived.KernelRfl
set_option linter.unusedVariables false
namespace Go.Proofs.Ytcckpcgmpmlioaa.RdFnExactSameOutcome
open Go Go.ChangeShapes Go.WideShapes Go.RowKit Go.Proofs.YtcckpcgmpmlioaaW.PrintWords Go.Proofs.Ytcckpcgmpmlioaa.PFnExactSameOutcome
def ok41 (x : S41) : Prop := (fun n => (Lit.int .i64 n).wf = true) x.f0 ∧ (fun n => (Lit.int .i64 n).wf = true) x.f1 ∧ (fun l => ∀ a ∈ l, (fun n => (Lit.int .i64 n).wf = true) a) x.f2 ∧ (fun n => (Lit.int .i64 n).wf = true) x.f3
theorem reads41 {H : Type} {enc : TypeId × Value → H} {w : World} {spare : Nat → Bool} {held : Bool} : Open.Reads enc Try.prog w spare held 41 k41 ok41 := by
  intro fuel cs x h
  obtain ⟨hl, hf⟩ := Open.field Try.underlying41 h
  have hl' : cs.length = 4 := hl.trans (by kernel_rfl)
  obtain ⟨a0, k0, o0⟩ := hf 0 _ 0 1 (Kd.int .i64) (fun n => (Lit.int .i64 n).wf = true) rfl rfl (by kernel_rfl) (Open.reads_int Try.underlying3)
  obtain ⟨a1, k1, o1⟩ := hf 1 _ 1 1 (Kd.int .i64) (fun n => (Lit.int .i64 n).wf = true) rfl rfl (by kernel_rfl) (Open.reads_int Try.underlying2)
  obtain ⟨a2, k2, o2⟩ := hf 2 _ 2 1 (Kd.slice 2 (Kd.int .i64)) (fun l => ∀ a ∈ l, (fun n => (Lit.int .i64 n).wf = true) a) rfl rfl (by kernel_rfl) (Open.reads_slice Try.underlying39 (by kernel_rfl) (Open.reads_int Try.underlying2))
  obtain ⟨a3, k3, o3⟩ := hf 3 _ 3 1 (Kd.int .i64) (fun n => (Lit.int .i64 n).wf = true) rfl rfl (by kernel_rfl) (Open.reads_int Try.underlying3)
  match cs, hl' with
  | [c0, c1, c2, c3], _ =>
    obtain rfl := Open.one_int (show (Kd.int .i64).K w a0 [c0] from k0)
    obtain rfl := Open.one_int (show (Kd.int .i64).K w a1 [c1] from k1)
    obtain ⟨A2, n2, rfl, l2, g2⟩ := Open.one_slice (show (Kd.slice 2 (Kd.int .i64)).K w a2 [c2] from k2)
    obtain rfl := Open.one_int (show (Kd.int .i64).K w a3 [c3] from k3)
    exact ⟨⟨a0, a1, a2, a3⟩, k41_mk w ⟨a0, a1, a2, a3⟩ l2 g2, o0, o1, o2, o3⟩
/-- The one pure statement of the law. -/
def Pure : Prop := ∀ (x0 : S41) (x1 : S41), ok41 x0 → x0.f2.length ≤ 9223372036854775807 → ok41 x1 → x1.f2.length ≤ 9223372036854775807 → ∃ k, laws_FnExactSameOutcome.f k x0.f0 x0.f1 x0.f2 x0.f3 x1.f0 x1.f1 x1.f2 x1.f3 = some true
end Go.Proofs.Ytcckpcgmpmlioaa.RdFnExactSameOutcome
