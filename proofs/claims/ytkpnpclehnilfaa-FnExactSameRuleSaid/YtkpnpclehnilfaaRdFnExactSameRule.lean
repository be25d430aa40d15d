/- What the arguments of FnExactSameRule read as, and the pure statement that is left of it. No condition. -/
import Derived.Test.YtkpnpclehnilfaaPFnExactSameRulex8
import Derived.Test.YtkpnpclehnilfaaOpen
import Derived.KernelRfl
set_option linter.unusedVariables false
namespace Go.Proofs.Ytkpnpclehnilfaa.RdFnExactSameRule
open Go Go.ChangeShapes Go.WideShapes Go.RowKit Go.Proofs.YtkpnpclehnilfaaW.PrintWords Go.Proofs.Ytkpnpclehnilfaa.PFnExactSameRule
def ok46 (x : S46) : Prop := (fun n => (Lit.int .i64 n).wf = true) x.f0 ∧ (fun n => (Lit.int .i64 n).wf = true) x.f1
theorem reads46 {H : Type} {enc : TypeId × Value → H} {w : World} {spare : Nat → Bool} {held : Bool} : Open.Reads enc Try.prog w spare held 46 k46 ok46 := by
  intro fuel cs x h
  obtain ⟨hl, hf⟩ := Open.field Try.underlying46 h
  have hl' : cs.length = 2 := hl.trans (by kernel_rfl)
  obtain ⟨a0, k0, o0⟩ := hf 0 _ 0 1 (Kd.int .i64) (fun n => (Lit.int .i64 n).wf = true) rfl rfl (by kernel_rfl) (Open.reads_int Try.underlying3)
  obtain ⟨a1, k1, o1⟩ := hf 1 _ 1 1 (Kd.int .i64) (fun n => (Lit.int .i64 n).wf = true) rfl rfl (by kernel_rfl) (Open.reads_int Try.underlying2)
  match cs, hl' with
  | [c0, c1], _ =>
    obtain rfl := Open.one_int (show (Kd.int .i64).K w a0 [c0] from k0)
    obtain rfl := Open.one_int (show (Kd.int .i64).K w a1 [c1] from k1)
    exact ⟨⟨a0, a1⟩, k46_mk w ⟨a0, a1⟩, o0, o1⟩
def ok24 (x : S24) : Prop := (fun l => l.length ≤ 9223372036854775807 ∧ ∀ a ∈ l, ok46 a) x.f0 ∧ (fun l => l.length ≤ 9223372036854775807 ∧ ∀ a ∈ l, ok46 a) x.f1
theorem reads24 {H : Type} {enc : TypeId × Value → H} {w : World} {spare : Nat → Bool} {held : Bool} : Open.Reads enc Try.prog w spare held 24 k24 ok24 := by
  intro fuel cs x h
  obtain ⟨hl, hf⟩ := Open.field Try.underlying24 h
  have hl' : cs.length = 2 := hl.trans (by kernel_rfl)
  obtain ⟨a0, k0, o0⟩ := hf 0 _ 0 1 (Kd.slice 46 k46) (fun l => l.length ≤ 9223372036854775807 ∧ ∀ a ∈ l, ok46 a) rfl rfl (by kernel_rfl) (Open.reads_slice Try.underlying22 (by kernel_rfl) reads46)
  obtain ⟨a1, k1, o1⟩ := hf 1 _ 1 1 (Kd.slice 46 k46) (fun l => l.length ≤ 9223372036854775807 ∧ ∀ a ∈ l, ok46 a) rfl rfl (by kernel_rfl) (Open.reads_slice Try.underlying22 (by kernel_rfl) reads46)
  match cs, hl' with
  | [c0, c1], _ =>
    obtain ⟨A0, n0, rfl, l0, g0⟩ := Open.one_slice (show (Kd.slice 46 k46).K w a0 [c0] from k0)
    obtain ⟨A1, n1, rfl, l1, g1⟩ := Open.one_slice (show (Kd.slice 46 k46).K w a1 [c1] from k1)
    exact ⟨⟨a0, a1⟩, k24_mk w ⟨a0, a1⟩ l0 g0 l1 g1, o0, o1⟩
/-- The one pure statement of the law. -/
def Pure : Prop := ∀ (x0 : S24) (x1 : S24), ok24 x0 → x0.f0.length ≤ 9223372036854775807 → x0.f1.length ≤ 9223372036854775807 → ok24 x1 → x1.f0.length ≤ 9223372036854775807 → x1.f1.length ≤ 9223372036854775807 → ∃ k, laws_FnExactSameRule.f k x0.f0 x0.f1 x1.f0 x1.f1 = some true
end Go.Proofs.Ytkpnpclehnilfaa.RdFnExactSameRule
