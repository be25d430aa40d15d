/- What the arguments of FnExactAllMatches read as, and the pure statement that is left of it. No condition. -/
import Derived.Test.YtakblgcheakbnaaPFnExactAllMatchesx16
import Derived.Test.YtakblgcheakbnaaVFnExactAllMatchesa
import Derived.KernelRfl
set_option linter.unusedVariables false
namespace Go.Proofs.Ytakblgcheakbnaa.RdFnExactAllMatches
open Go Go.ChangeShapes Go.WideShapes Go.RowKit Go.Proofs.YtakblgcheakbnaaW.PrintWords Go.Proofs.Ytakblgcheakbnaa.PFnExactAllMatches
def ok130 (x : S130) : Prop := (fun n => (Lit.int .i64 n).wf = true) x.f0 ∧ (fun n => (Lit.int .i64 n).wf = true) x.f1 ∧ (fun l => l.length ≤ 9223372036854775807 ∧ ∀ a ∈ l, (fun n => (Lit.int .i64 n).wf = true) a) x.f2
theorem reads130 {H : Type} {enc : TypeId × Value → H} {w : World} {spare : Nat → Bool} {held : Bool} : Open.Reads enc Try.prog w spare held 130 k130 ok130 := by
 intro fuel cs x h
 obtain ⟨hl, hf⟩ := Open.field Try.underlying130 h
 have hl' : cs.length = 3 := hl.trans (by kernel_rfl)
 obtain ⟨a0, k0, o0⟩ := hf 0 _ 0 1 (Kd.int .i64) (fun n => (Lit.int .i64 n).wf = true) rfl rfl (by kernel_rfl) (Open.reads_int Try.underlying3)
 obtain ⟨a1, k1, o1⟩ := hf 1 _ 1 1 (Kd.int .i64) (fun n => (Lit.int .i64 n).wf = true) rfl rfl (by kernel_rfl) (Open.reads_int Try.underlying2)
 obtain ⟨a2, k2, o2⟩ := hf 2 _ 2 1 (Kd.slice 3 (Kd.int .i64)) (fun l => l.length ≤ 9223372036854775807 ∧ ∀ a ∈ l, (fun n => (Lit.int .i64 n).wf = true) a) rfl rfl (by kernel_rfl) (Open.reads_slice Try.underlying23 (by kernel_rfl) (Open.reads_int Try.underlying3))
 match cs, hl' with
 | [c0, c1, c2], _ =>
  obtain rfl := Open.one_int (show (Kd.int .i64).K w a0 [c0] from k0)
  obtain rfl := Open.one_int (show (Kd.int .i64).K w a1 [c1] from k1)
  obtain ⟨A2, n2, rfl, l2, g2⟩ := Open.one_slice (show (Kd.slice 3 (Kd.int .i64)).K w a2 [c2] from k2)
  exact ⟨⟨a0, a1, a2⟩, k130_mk w ⟨a0, a1, a2⟩ l2 g2, o0, o1, o2⟩
def ok25 (x : S25) : Prop := (fun l => l.length ≤ 9223372036854775807 ∧ ∀ a ∈ l, ok130 a) x.f0 ∧ (fun l => l.length ≤ 9223372036854775807 ∧ ∀ a ∈ l, (fun n => (Lit.int .i64 n).wf = true) a) x.f1
theorem reads25 {H : Type} {enc : TypeId × Value → H} {w : World} {spare : Nat → Bool} {held : Bool} : Open.Reads enc Try.prog w spare held 25 k25 ok25 := by
 intro fuel cs x h
 obtain ⟨hl, hf⟩ := Open.field Try.underlying25 h
 have hl' : cs.length = 2 := hl.trans (by kernel_rfl)
 obtain ⟨a0, k0, o0⟩ := hf 0 _ 0 1 (Kd.slice 130 k130) (fun l => l.length ≤ 9223372036854775807 ∧ ∀ a ∈ l, ok130 a) rfl rfl (by kernel_rfl) (Open.reads_slice Try.underlying22 (by kernel_rfl) reads130)
 obtain ⟨a1, k1, o1⟩ := hf 1 _ 1 1 (Kd.slice 3 (Kd.int .i64)) (fun l => l.length ≤ 9223372036854775807 ∧ ∀ a ∈ l, (fun n => (Lit.int .i64 n).wf = true) a) rfl rfl (by kernel_rfl) (Open.reads_slice Try.underlying23 (by kernel_rfl) (Open.reads_int Try.underlying3))
 match cs, hl' with
 | [c0, c1], _ =>
  obtain ⟨A0, n0, rfl, l0, g0⟩ := Open.one_slice (show (Kd.slice 130 k130).K w a0 [c0] from k0)
  obtain ⟨A1, n1, rfl, l1, g1⟩ := Open.one_slice (show (Kd.slice 3 (Kd.int .i64)).K w a1 [c1] from k1)
  exact ⟨⟨a0, a1⟩, k25_mk w ⟨a0, a1⟩ l0 g0 l1 g1, o0, o1⟩
def ok98 (x : S98) : Prop := (fun n => (Lit.int .i64 n).wf = true) x.f0 ∧ (fun n => (Lit.int .i64 n).wf = true) x.f1
theorem reads98 {H : Type} {enc : TypeId × Value → H} {w : World} {spare : Nat → Bool} {held : Bool} : Open.Reads enc Try.prog w spare held 98 k98 ok98 := by
 intro fuel cs x h
 obtain ⟨hl, hf⟩ := Open.field Try.underlying98 h
 have hl' : cs.length = 2 := hl.trans (by kernel_rfl)
 obtain ⟨a0, k0, o0⟩ := hf 0 _ 0 1 (Kd.int .i64) (fun n => (Lit.int .i64 n).wf = true) rfl rfl (by kernel_rfl) (Open.reads_int Try.underlying3)
 obtain ⟨a1, k1, o1⟩ := hf 1 _ 1 1 (Kd.int .i64) (fun n => (Lit.int .i64 n).wf = true) rfl rfl (by kernel_rfl) (Open.reads_int Try.underlying2)
 match cs, hl' with
 | [c0, c1], _ =>
  obtain rfl := Open.one_int (show (Kd.int .i64).K w a0 [c0] from k0)
  obtain rfl := Open.one_int (show (Kd.int .i64).K w a1 [c1] from k1)
  exact ⟨⟨a0, a1⟩, k98_mk w ⟨a0, a1⟩, o0, o1⟩
/-- The one pure statement of the law. -/
def Pure : Prop := ∀ (x0 : S25) (l1 : List S98), ok25 x0 → x0.f0.length ≤ 9223372036854775807 → x0.f1.length ≤ 9223372036854775807 → l1.length ≤ 9223372036854775807 → (fun l => l.length ≤ 9223372036854775807 ∧ ∀ a ∈ l, ok98 a) l1 → ∃ k, laws_FnExactAllMatches.f k x0.f0 x0.f1 l1 = some true
end Go.Proofs.Ytakblgcheakbnaa.RdFnExactAllMatches
