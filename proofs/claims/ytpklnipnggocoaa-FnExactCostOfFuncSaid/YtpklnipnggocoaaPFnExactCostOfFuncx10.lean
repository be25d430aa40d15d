/- Functions of the program and of the reference as plain Lean functions, and what their calls come to; partly printed by a program, partly by hand; no condition beyond what each theorem says. -/
import Derived.Test.YtpklnipnggocoaaPFnExactCostOfFuncx0
import Derived.Test.YtpklnipnggocoaaPFnExactCostOfFuncx9
namespace Go.Proofs.Ytpklnipnggocoaa.PFnExactCostOfFunc
open Go.RowKit Go.Proofs.YtpklnipnggocoaaW.PrintWords Go.Proofs.YtpklnipnggocoaaW.PrintLast Go.Proofs.YtpklnipnggocoaaW.PrintMore
attribute [local go_sem] max2_int min2_int max_two min_two max_three min_three max_four min_four   -- for this text's walks alone
set_option linter.unusedVariables false
set_option linter.unusedSimpArgs false

/-! ### impl_arity: function 101 -/
def impl_arity.j0 : Nat → Int → Bool → Option (Int)
  | 0, _, _ => none
  | k + 1, x3, x4 => if x4 = true then (some 0) else (if x3 = 3 then (some 1) else (if x3 = 11 then (some 3) else (some 2)))
def impl_arity.f (k : Nat) (a0 : Int) : Option (Int) := if a0 = 1 then (impl_arity.j0 k a0 (a0 == 1)) else (impl_arity.j0 k a0 (a0 == 2))
set_option maxHeartbeats 8000000 in
set_option maxRecDepth 100000 in
theorem impl_arity.calls (k : Nat) (a0 : Int) (r : Int) (w : World) (h : impl_arity.f k a0 = some r) :
    Calls Try.prog 101 #[.int .i64 a0] w fun e w' => e = .returned (.int .i64 r) ∧ Drawn0 w w' := by
  (have H : (if a0 = 1 then (impl_arity.j0 k a0 (a0 == 1)) else (impl_arity.j0 k a0 (a0 == 2))) = some r := h); (clear h); (have HC2 := Aside0.mk H); (clear H); (go_enter Try.func101, Try.ntmps101)
  go_upto_if 4 with (fail)
  go_cut [4] (fun v4 wc => ∃ (kq : Nat) (x4_1 : Bool), v4 = .bool x4_1 ∧ Aside0 (impl_arity.j0 kq a0 x4_1 = some r) ∧ Aside0 (kq ≤ k) ∧ Drawn0 w wc)
  case first =>
    (have H := HC2.out); (clear HC2); (by_cases c3 : a0 = 1)
    · rw [if_pos c3] at H
      (have c3b0 : (a0 == 1) = true := beq_iff_eq.mpr c3); (have c3b1 : (a0 != 1) = false := bne_eq_false_iff_eq.mpr c3); (clear c3); (first | rw [c3b0] | (simp only [i64_w, i32_w]; rw [c3b0]) | skip); (have H' := Aside0.mk H); (clear H); (go_wp2)
      go_meet
      case rel => exact ⟨_, ((a0 == 1)), (by first | rfl | (simp; done) | (simp [*]; done)), H', ⟨by first | omega | exact Nat.le_refl _⟩, by repeat (first | exact Drawn0.refl _ | apply Drawn0.step)⟩
    · rw [if_neg c3] at H
      (have c3b0 : (a0 == 1) = false := beq_eq_false_iff_ne.mpr c3); (have c3b1 : (a0 != 1) = true := bne_iff_ne.mpr c3); (first | rw [c3b0] | (simp only [i64_w, i32_w]; rw [c3b0]) | skip); (have H' := Aside0.mk H); (clear H); (go_wp2)
      go_meet
      case rel => exact ⟨_, ((a0 == 2)), (by first | rfl | (simp; done) | (simp [*]; done)), H', ⟨by first | omega | exact Nat.le_refl _⟩, by repeat (first | exact Drawn0.refl _ | apply Drawn0.step)⟩
  case rest =>
    (clear HC2); (try clear c1); (try clear p2); (try clear c3); (try clear c3b0); (try clear c3b1); (obtain ⟨kq, x4_1, rfl, HA, HJ1, ⟨mc1, rfl⟩⟩ := hcut)
    cases kq with
    | zero => exact absurd HA.out (by simp [impl_arity.j0])
    | succ kj1 =>
      (have H := HA.out); (clear HA); (simp only [impl_arity.j0] at H); (by_cases c4 : x4_1 = true)
      (focus ((subst c4); (have H1 : (some 0) = some r := by rw [if_pos rfl] at H; exact H); (clear H); (have H := H1); (clear H1); (obtain rfl := Option.some.inj H); (go_wp2); (go_ret); (exact ⟨by first | rfl | (simp; done) | (simp [*]; done), by repeat (first | exact Drawn0.refl _ | apply Drawn0.step)⟩))); (focus ((replace c4 := Bool.eq_false_iff.mpr c4); (subst c4); (have H1 : (if a0 = 3 then (some 1) else (if a0 = 11 then (some 3) else (some 2))) = some r := by rw [if_neg (show ¬ (false = true) by decide)] at H; exact H); (clear H); (have H := H1); (clear H1); (by_cases c5 : a0 = 3); (focus ((rw [if_pos c5] at H); (have c5b0 : (a0 == 3) = true := beq_iff_eq.mpr c5); (have c5b1 : (a0 != 3) = false := bne_eq_false_iff_eq.mpr c5); (clear c5); (obtain rfl := Option.some.inj H); (go_wp2); (go_ret); (exact ⟨by first | rfl | (simp; done) | (simp [*]; done), by repeat (first | exact Drawn0.refl _ | apply Drawn0.step)⟩))); (focus ((rw [if_neg c5] at H); (have c5b0 : (a0 == 3) = false := beq_eq_false_iff_ne.mpr c5); (have c5b1 : (a0 != 3) = true := bne_iff_ne.mpr c5); (by_cases c6 : a0 = 11); (focus ((rw [if_pos c6] at H); (have c6b0 : (a0 == 11) = true := beq_iff_eq.mpr c6); (have c6b1 : (a0 != 11) = false := bne_eq_false_iff_eq.mpr c6); (clear c6); (obtain rfl := Option.some.inj H); (go_wp2); (go_ret); (exact ⟨by first | rfl | (simp; done) | (simp [*]; done), by repeat (first | exact Drawn0.refl _ | apply Drawn0.step)⟩))); (focus ((rw [if_neg c6] at H); (have c6b0 : (a0 == 11) = false := beq_eq_false_iff_ne.mpr c6); (have c6b1 : (a0 != 11) = true := bne_iff_ne.mpr c6); (obtain rfl := Option.some.inj H); (go_wp2); (go_ret); (exact ⟨by first | rfl | (simp; done) | (simp [*]; done), by repeat (first | exact Drawn0.refl _ | apply Drawn0.step)⟩)))))))

/-! ### impl_argsOf: function 89 -/
def impl_argsOf.f (k : Nat) (a0 : Int) : Option (Int) := if a0 = 12 then (some 1) else (if a0 = 13 then (some 2) else ((impl_isOp.f a0).bind fun t240 => (if t240 = true then (if a0 = 2 then (some (-1)) else ((impl_arity.f k a0).bind fun t241 => (some t241))) else (some (-1)))))
set_option maxHeartbeats 8000000 in
set_option maxRecDepth 100000 in
theorem impl_argsOf.calls (k : Nat) (a0 : Int) (r : Int) (w : World) (h : impl_argsOf.f k a0 = some r) :
    Calls Try.prog 89 #[.int .i64 a0] w fun e w' => e = .returned (.int .i64 r) ∧ Drawn0 w w' := by
  (have H : (if a0 = 12 then (some 1) else (if a0 = 13 then (some 2) else ((impl_isOp.f a0).bind fun t240 => (if t240 = true then (if a0 = 2 then (some (-1)) else ((impl_arity.f k a0).bind fun t241 => (some t241))) else (some (-1)))))) = some r := h); (clear h); (by_cases c2 : a0 = 12)
  (focus ((rw [if_pos c2] at H); (have c2b0 : (a0 == 12) = true := beq_iff_eq.mpr c2); (have c2b1 : (a0 != 12) = false := bne_eq_false_iff_eq.mpr c2); (clear c2); (obtain rfl := Option.some.inj H); (go_enter Try.func89, Try.ntmps89); (go_wp2); (go_ret); (exact ⟨by first | rfl | (simp; done) | (simp [*]; done), by repeat (first | exact Drawn0.refl _ | apply Drawn0.step)⟩)))
  · rw [if_neg c2] at H
    (have c2b0 : (a0 == 12) = false := beq_eq_false_iff_ne.mpr c2); (have c2b1 : (a0 != 12) = true := bne_iff_ne.mpr c2); (by_cases c3 : a0 = 13)
    (focus ((rw [if_pos c3] at H); (have c3b0 : (a0 == 13) = true := beq_iff_eq.mpr c3); (have c3b1 : (a0 != 13) = false := bne_eq_false_iff_eq.mpr c3); (clear c3); (obtain rfl := Option.some.inj H); (go_enter Try.func89, Try.ntmps89); (go_wp2); (go_ret); (exact ⟨by first | rfl | (simp; done) | (simp [*]; done), by repeat (first | exact Drawn0.refl _ | apply Drawn0.step)⟩)))
    · rw [if_neg c3] at H
      (have c3b0 : (a0 == 13) = false := beq_eq_false_iff_ne.mpr c3); (have c3b1 : (a0 != 13) = true := bne_iff_ne.mpr c3); (replace H := Option.bind_eq_some_iff.mp H); (obtain ⟨t240, A40, H⟩ := H); (replace H : (if t240 = true then (if a0 = 2 then (some (-1)) else ((impl_arity.f k a0).bind fun t241 => (some t241))) else (some (-1))) = some r := H); (have A4 := Aside0.mk A40); (clear A40); (by_cases c5 : t240 = true)
      (focus ((subst c5); (have H1 : (if a0 = 2 then (some (-1)) else ((impl_arity.f k a0).bind fun t241 => (some t241))) = some r := by rw [if_pos rfl] at H; exact H); (clear H); (have H := H1); (clear H1); (by_cases c6 : a0 = 2); (focus ((rw [if_pos c6] at H); (have c6b0 : (a0 == 2) = true := beq_iff_eq.mpr c6); (have c6b1 : (a0 != 2) = false := bne_eq_false_iff_eq.mpr c6); (clear c6); (obtain rfl := Option.some.inj H); (go_enter Try.func89, Try.ntmps89); (go_wp2_with (first | ((with_reducible refine gate_callee (f := 100) rfl ?_); refine goesL_ (some 11) rfl rfl Try.func100 (by kernel_rfl) rfl #[.int .i64 a0] rfl eqQ ?_; (with_reducible refine (impl_isOp.calls a0 true _ A4.out).mono ?_); rintro e w' ⟨rfl, ⟨nd, rfl⟩⟩; refine ⟨_, rfl, ?_⟩))); (go_ret); (exact ⟨by first | rfl | (simp; done) | (simp [*]; done), by repeat (first | exact Drawn0.refl _ | apply Drawn0.step)⟩))); (focus ((rw [if_neg c6] at H); (have c6b0 : (a0 == 2) = false := beq_eq_false_iff_ne.mpr c6); (have c6b1 : (a0 != 2) = true := bne_iff_ne.mpr c6); (replace H := Option.bind_eq_some_iff.mp H); (obtain ⟨t241, A70, H⟩ := H); (replace H : (some t241) = some r := H); (have A7 := Aside0.mk A70); (clear A70); (obtain rfl := Option.some.inj H); (go_enter Try.func89, Try.ntmps89); (go_wp2_with (first | ((with_reducible refine gate_callee (f := 100) rfl ?_); refine goesL_ (some 11) rfl rfl Try.func100 (by kernel_rfl) rfl #[.int .i64 a0] rfl eqQ ?_; (with_reducible refine (impl_isOp.calls a0 true _ A4.out).mono ?_); rintro e w' ⟨rfl, ⟨nd, rfl⟩⟩; refine ⟨_, rfl, ?_⟩) | ((with_reducible refine gate_callee (f := 101) rfl ?_); refine goesL_ (some 17) rfl rfl Try.func101 (by kernel_rfl) rfl #[.int .i64 a0] rfl eqQ ?_; (with_reducible refine (impl_arity.calls k a0 t241 _ A7.out).mono ?_); rintro e w' ⟨rfl, ⟨nd, rfl⟩⟩; refine ⟨_, rfl, ?_⟩))); (go_ret); (exact ⟨by first | rfl | (simp; done) | (simp [*]; done), by repeat (first | exact Drawn0.refl _ | apply Drawn0.step)⟩))))); (focus ((replace c5 := Bool.eq_false_iff.mpr c5); (subst c5); (have H1 : (some (-1)) = some r := by rw [if_neg (show ¬ (false = true) by decide)] at H; exact H); (clear H); (have H := H1); (clear H1); (obtain rfl := Option.some.inj H); (go_enter Try.func89, Try.ntmps89); (go_wp2_with (first | ((with_reducible refine gate_callee (f := 100) rfl ?_); refine goesL_ (some 11) rfl rfl Try.func100 (by kernel_rfl) rfl #[.int .i64 a0] rfl eqQ ?_; (with_reducible refine (impl_isOp.calls a0 false _ A4.out).mono ?_); rintro e w' ⟨rfl, ⟨nd, rfl⟩⟩; refine ⟨_, rfl, ?_⟩))); (go_ret); (exact ⟨by first | rfl | (simp; done) | (simp [*]; done), by repeat (first | exact Drawn0.refl _ | apply Drawn0.step)⟩)))

end Go.Proofs.Ytpklnipnggocoaa.PFnExactCostOfFunc
