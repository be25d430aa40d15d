/- What the arguments of FnExactRunFunc read as, and the pure statement that is left of it. No condition. -/
import Derived.Test.YtpklnipnggocoaaPFnExactRunFuncx19
import Derived.Test.YtpklnipnggocoaaVFnExactRunFunca
import Derived.KernelRfl
set_option linter.unusedVariables false
namespace Go.Proofs.Ytpklnipnggocoaa.RdFnExactRunFunc
open Go Go.ChangeShapes Go.WideShapes Go.RowKit Go.Proofs.YtpklnipnggocoaaW.PrintWords Go.Proofs.Ytpklnipnggocoaa.PFnExactRunFunc
def ok112 (x : S112) : Prop := (fun n => (Lit.int .i64 n).wf = true) x.f0 ∧ (fun n => (Lit.int .i64 n).wf = true) x.f1 ∧ (fun l => l.length ≤ 9223372036854775807 ∧ ∀ a ∈ l, (fun n => (Lit.int .i64 n).wf = true) a) x.f2
theorem reads112 {H : Type} {enc : TypeId × Value → H} {w : World} {spare : Nat → Bool} {held : Bool} : Open.Reads enc Try.prog w spare held 112 k112 ok112 := by
 intro fuel cs x h
 obtain ⟨hl, hf⟩ := Open.field Try.underlying112 h
 have hl' : cs.length = 3 := hl.trans (by kernel_rfl)
 obtain ⟨a0, k0, o0⟩ := hf 0 _ 0 1 (Kd.int .i64) (fun n => (Lit.int .i64 n).wf = true) rfl rfl (by kernel_rfl) (Open.reads_int Try.underlying3)
 obtain ⟨a1, k1, o1⟩ := hf 1 _ 1 1 (Kd.int .i64) (fun n => (Lit.int .i64 n).wf = true) rfl rfl (by kernel_rfl) (Open.reads_int Try.underlying2)
 obtain ⟨a2, k2, o2⟩ := hf 2 _ 2 1 (Kd.slice 3 (Kd.int .i64)) (fun l => l.length ≤ 9223372036854775807 ∧ ∀ a ∈ l, (fun n => (Lit.int .i64 n).wf = true) a) rfl rfl (by kernel_rfl) (Open.reads_slice Try.underlying55 (by kernel_rfl) (Open.reads_int Try.underlying3))
 match cs, hl' with
 | [c0, c1, c2], _ =>
  obtain rfl := Open.one_int (show (Kd.int .i64).K w a0 [c0] from k0)
  obtain rfl := Open.one_int (show (Kd.int .i64).K w a1 [c1] from k1)
  obtain ⟨A2, n2, rfl, l2, g2⟩ := Open.one_slice (show (Kd.slice 3 (Kd.int .i64)).K w a2 [c2] from k2)
  exact ⟨⟨a0, a1, a2⟩, k112_mk w ⟨a0, a1, a2⟩ l2 g2, o0, o1, o2⟩
def ok114 (x : S114) : Prop := (fun n => (Lit.int .i64 n).wf = true) x.f0 ∧ (fun l => l.length ≤ 9223372036854775807 ∧ ∀ a ∈ l, (fun n => (Lit.int .i64 n).wf = true) a) x.f1
theorem reads114 {H : Type} {enc : TypeId × Value → H} {w : World} {spare : Nat → Bool} {held : Bool} : Open.Reads enc Try.prog w spare held 114 k114 ok114 := by
 intro fuel cs x h
 obtain ⟨hl, hf⟩ := Open.field Try.underlying114 h
 have hl' : cs.length = 2 := hl.trans (by kernel_rfl)
 obtain ⟨a0, k0, o0⟩ := hf 0 _ 0 1 (Kd.int .i64) (fun n => (Lit.int .i64 n).wf = true) rfl rfl (by kernel_rfl) (Open.reads_int Try.underlying3)
 obtain ⟨a1, k1, o1⟩ := hf 1 _ 1 1 (Kd.slice 3 (Kd.int .i64)) (fun l => l.length ≤ 9223372036854775807 ∧ ∀ a ∈ l, (fun n => (Lit.int .i64 n).wf = true) a) rfl rfl (by kernel_rfl) (Open.reads_slice Try.underlying55 (by kernel_rfl) (Open.reads_int Try.underlying3))
 match cs, hl' with
 | [c0, c1], _ =>
  obtain rfl := Open.one_int (show (Kd.int .i64).K w a0 [c0] from k0)
  obtain ⟨A1, n1, rfl, l1, g1⟩ := Open.one_slice (show (Kd.slice 3 (Kd.int .i64)).K w a1 [c1] from k1)
  exact ⟨⟨a0, a1⟩, k114_mk w ⟨a0, a1⟩ l1 g1, o0, o1⟩
def ok77 (x : S77) : Prop := (fun n => (Lit.int .i64 n).wf = true) x.f0 ∧ (fun l => l.length ≤ 9223372036854775807 ∧ ∀ a ∈ l, ok112 a) x.f1 ∧ (fun n => (Lit.int .i64 n).wf = true) x.f2 ∧ (fun n => (Lit.int .i64 n).wf = true) x.f3 ∧ (fun l => l.length ≤ 9223372036854775807 ∧ ∀ a ∈ l, ok114 a) x.f4
theorem reads77 {H : Type} {enc : TypeId × Value → H} {w : World} {spare : Nat → Bool} {held : Bool} : Open.Reads enc Try.prog w spare held 77 k77 ok77 := by
 intro fuel cs x h
 obtain ⟨hl, hf⟩ := Open.field Try.underlying77 h
 have hl' : cs.length = 5 := hl.trans (by kernel_rfl)
 obtain ⟨a0, k0, o0⟩ := hf 0 _ 0 1 (Kd.int .i64) (fun n => (Lit.int .i64 n).wf = true) rfl rfl (by kernel_rfl) (Open.reads_int Try.underlying3)
 obtain ⟨a1, k1, o1⟩ := hf 1 _ 1 1 (Kd.slice 112 k112) (fun l => l.length ≤ 9223372036854775807 ∧ ∀ a ∈ l, ok112 a) rfl rfl (by kernel_rfl) (Open.reads_slice Try.underlying74 (by kernel_rfl) reads112)
 obtain ⟨a2, k2, o2⟩ := hf 2 _ 2 1 (Kd.int .i64) (fun n => (Lit.int .i64 n).wf = true) rfl rfl (by kernel_rfl) (Open.reads_int Try.underlying3)
 obtain ⟨a3, k3, o3⟩ := hf 3 _ 3 1 (Kd.int .i64) (fun n => (Lit.int .i64 n).wf = true) rfl rfl (by kernel_rfl) (Open.reads_int Try.underlying3)
 obtain ⟨a4, k4, o4⟩ := hf 4 _ 4 1 (Kd.slice 114 k114) (fun l => l.length ≤ 9223372036854775807 ∧ ∀ a ∈ l, ok114 a) rfl rfl (by kernel_rfl) (Open.reads_slice Try.underlying75 (by kernel_rfl) reads114)
 match cs, hl' with
 | [c0, c1, c2, c3, c4], _ =>
  obtain rfl := Open.one_int (show (Kd.int .i64).K w a0 [c0] from k0)
  obtain ⟨A1, n1, rfl, l1, g1⟩ := Open.one_slice (show (Kd.slice 112 k112).K w a1 [c1] from k1)
  obtain rfl := Open.one_int (show (Kd.int .i64).K w a2 [c2] from k2)
  obtain rfl := Open.one_int (show (Kd.int .i64).K w a3 [c3] from k3)
  obtain ⟨A4, n4, rfl, l4, g4⟩ := Open.one_slice (show (Kd.slice 114 k114).K w a4 [c4] from k4)
  exact ⟨⟨a0, a1, a2, a3, a4⟩, k77_mk w ⟨a0, a1, a2, a3, a4⟩ l1 g1 l4 g4, o0, o1, o2, o3, o4⟩
def ok24 (x : S24) : Prop := (fun n => (Lit.int .i64 n).wf = true) x.f0 ∧ (fun l => l.length ≤ 9223372036854775807 ∧ ∀ a ∈ l, ok77 a) x.f1
theorem reads24 {H : Type} {enc : TypeId × Value → H} {w : World} {spare : Nat → Bool} {held : Bool} : Open.Reads enc Try.prog w spare held 24 k24 ok24 := by
 intro fuel cs x h
 obtain ⟨hl, hf⟩ := Open.field Try.underlying24 h
 have hl' : cs.length = 2 := hl.trans (by kernel_rfl)
 obtain ⟨a0, k0, o0⟩ := hf 0 _ 0 1 (Kd.int .i64) (fun n => (Lit.int .i64 n).wf = true) rfl rfl (by kernel_rfl) (Open.reads_int Try.underlying3)
 obtain ⟨a1, k1, o1⟩ := hf 1 _ 1 1 (Kd.slice 77 k77) (fun l => l.length ≤ 9223372036854775807 ∧ ∀ a ∈ l, ok77 a) rfl rfl (by kernel_rfl) (Open.reads_slice Try.underlying22 (by kernel_rfl) reads77)
 match cs, hl' with
 | [c0, c1], _ =>
  obtain rfl := Open.one_int (show (Kd.int .i64).K w a0 [c0] from k0)
  obtain ⟨A1, n1, rfl, l1, g1⟩ := Open.one_slice (show (Kd.slice 77 k77).K w a1 [c1] from k1)
  exact ⟨⟨a0, a1⟩, k24_mk w ⟨a0, a1⟩ l1 g1, o0, o1⟩
/-- The one pure statement of the law. -/
def Pure : Prop := ∀ (x0 : S24) (l1 : List Int) (l2 : List Int) (a3 : Int), ok24 x0 → x0.f1.length ≤ 9223372036854775807 → l1.length ≤ 9223372036854775807 → (fun l => l.length ≤ 9223372036854775807 ∧ ∀ a ∈ l, (fun n => (Lit.int .i64 n).wf = true) a) l1 → l2.length ≤ 9223372036854775807 → (fun l => l.length ≤ 9223372036854775807 ∧ ∀ a ∈ l, (fun n => (Lit.int .i64 n).wf = true) a) l2 → (Lit.int .i64 a3).wf = true → ∃ k, laws_FnExactRunFunc.f k x0.f0 x0.f1 l1 l2 a3 = some true
end Go.Proofs.Ytpklnipnggocoaa.RdFnExactRunFunc
