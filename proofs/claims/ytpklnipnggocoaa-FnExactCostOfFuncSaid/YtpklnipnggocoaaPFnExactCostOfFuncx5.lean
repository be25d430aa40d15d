/- Functions of the program and of the reference as plain Lean functions, and what their calls come to; partly printed by a program, partly by hand; no condition beyond what each theorem says. -/
import Derived.Test.YtpklnipnggocoaaPFnExactCostOfFuncx0
import Derived.Test.YtpklnipnggocoaaPFnExactCostOfFuncx4
namespace Go.Proofs.Ytpklnipnggocoaa.PFnExactCostOfFunc
open Go.RowKit Go.Proofs.YtpklnipnggocoaaW.PrintWords Go.Proofs.YtpklnipnggocoaaW.PrintLast Go.Proofs.YtpklnipnggocoaaW.PrintMore
attribute [local go_sem] max2_int min2_int max_two min_two max_three min_three max_four min_four   -- for this text's walks alone
set_option linter.unusedVariables false
set_option linter.unusedSimpArgs false

/-! ### spec_l1Arity: function 60 -/
def spec_l1Arity.j0 : Nat → Int → Bool → Option (Int)
  | 0, _, _ => none
  | k + 1, x0, x3 => if x3 = true then (some 0) else (if x0 = 3 then (some 1) else (if x0 = 11 then (some 3) else ((spec_l1In.f x0 4 10).bind fun t208 => (if t208 = true then (some 2) else (some (-1))))))
def spec_l1Arity.f (k : Nat) (a0 : Int) : Option (Int) := if a0 = 1 then (spec_l1Arity.j0 k a0 true) else (spec_l1Arity.j0 k a0 (a0 == 2))
set_option maxHeartbeats 8000000 in
set_option maxRecDepth 100000 in
theorem spec_l1Arity.calls (k : Nat) (a0 : Int) (r : Int) (w : World) (h : spec_l1Arity.f k a0 = some r) :
    Calls Try.prog 60 #[.int .i64 a0] w fun e w' => e = .returned (.int .i64 r) ∧ Drawn0 w w' := by
  (have H : (if a0 = 1 then (spec_l1Arity.j0 k a0 true) else (spec_l1Arity.j0 k a0 (a0 == 2))) = some r := h); (clear h); (have HC2 := Aside0.mk H); (clear H); (go_enter Try.func60, Try.ntmps60)
  go_upto_region 1 with (fail)
  go_cut [3] (fun v3 wc => ∃ (kq : Nat) (x3_1 : Bool), v3 = .bool x3_1 ∧ Aside0 (spec_l1Arity.j0 kq a0 x3_1 = some r) ∧ Aside0 (kq ≤ k) ∧ Drawn0 w wc)
  case first =>
    (have H := HC2.out); (clear HC2); (by_cases c3 : a0 = 1)
    · rw [if_pos c3] at H
      (have c3b0 : (a0 == 1) = true := beq_iff_eq.mpr c3); (have c3b1 : (a0 != 1) = false := bne_eq_false_iff_eq.mpr c3); (clear c3); (first | rw [c3b0] | (simp only [i64_w, i32_w]; rw [c3b0]) | skip); (have H' := Aside0.mk H); (clear H); (go_wp2)
      go_meet
      case rel => exact ⟨_, (true), (by first | rfl | (simp; done) | (simp [*]; done)), H', ⟨by first | omega | exact Nat.le_refl _⟩, by repeat (first | exact Drawn0.refl _ | apply Drawn0.step)⟩
    · rw [if_neg c3] at H
      (have c3b0 : (a0 == 1) = false := beq_eq_false_iff_ne.mpr c3); (have c3b1 : (a0 != 1) = true := bne_iff_ne.mpr c3); (first | rw [c3b0] | (simp only [i64_w, i32_w]; rw [c3b0]) | skip); (have H' := Aside0.mk H); (clear H); (go_wp2)
      go_meet
      case rel => exact ⟨_, ((a0 == 2)), (by first | rfl | (simp; done) | (simp [*]; done)), H', ⟨by first | omega | exact Nat.le_refl _⟩, by repeat (first | exact Drawn0.refl _ | apply Drawn0.step)⟩
  case rest =>
    (clear HC2); (try clear p2); (try clear c3); (try clear c3b0); (try clear c3b1); (obtain ⟨kq, x3_1, rfl, HA, HJ1, ⟨mc1, rfl⟩⟩ := hcut)
    cases kq with
    | zero => exact absurd HA.out (by simp [spec_l1Arity.j0])
    | succ kj1 =>
      (have H := HA.out); (clear HA); (simp only [spec_l1Arity.j0] at H); (by_cases c4 : x3_1 = true)
      (focus ((subst c4); (have H1 : (some 0) = some r := by rw [if_pos rfl] at H; exact H); (clear H); (have H := H1); (clear H1); (obtain rfl := Option.some.inj H); (go_wp2); (go_ret); (exact ⟨by first | rfl | (simp; done) | (simp [*]; done), by repeat (first | exact Drawn0.refl _ | apply Drawn0.step)⟩)))
      · replace c4 := Bool.eq_false_iff.mpr c4
        (subst c4); (have H1 : (if a0 = 3 then (some 1) else (if a0 = 11 then (some 3) else ((spec_l1In.f a0 4 10).bind fun t208 => (if t208 = true then (some 2) else (some (-1)))))) = some r := by rw [if_neg (show ¬ (false = true) by decide)] at H; exact H); (clear H); (have H := H1); (clear H1); (by_cases c5 : a0 = 3)
        (focus ((rw [if_pos c5] at H); (have c5b0 : (a0 == 3) = true := beq_iff_eq.mpr c5); (have c5b1 : (a0 != 3) = false := bne_eq_false_iff_eq.mpr c5); (clear c5); (obtain rfl := Option.some.inj H); (go_wp2); (go_ret); (exact ⟨by first | rfl | (simp; done) | (simp [*]; done), by repeat (first | exact Drawn0.refl _ | apply Drawn0.step)⟩))); (focus ((rw [if_neg c5] at H); (have c5b0 : (a0 == 3) = false := beq_eq_false_iff_ne.mpr c5); (have c5b1 : (a0 != 3) = true := bne_iff_ne.mpr c5); (by_cases c6 : a0 = 11); (focus ((rw [if_pos c6] at H); (have c6b0 : (a0 == 11) = true := beq_iff_eq.mpr c6); (have c6b1 : (a0 != 11) = false := bne_eq_false_iff_eq.mpr c6); (clear c6); (obtain rfl := Option.some.inj H); (go_wp2); (go_ret); (exact ⟨by first | rfl | (simp; done) | (simp [*]; done), by repeat (first | exact Drawn0.refl _ | apply Drawn0.step)⟩))); (focus ((rw [if_neg c6] at H); (have c6b0 : (a0 == 11) = false := beq_eq_false_iff_ne.mpr c6); (have c6b1 : (a0 != 11) = true := bne_iff_ne.mpr c6); (replace H := Option.bind_eq_some_iff.mp H); (obtain ⟨t208, A70, H⟩ := H); (replace H : (if t208 = true then (some 2) else (some (-1))) = some r := H); (have A7 := Aside0.mk A70); (clear A70); (by_cases c8 : t208 = true); (focus ((subst c8); (have H1 : (some 2) = some r := by rw [if_pos rfl] at H; exact H); (clear H); (have H := H1); (clear H1); (obtain rfl := Option.some.inj H); (go_wp2_with (first | ((with_reducible refine gate_callee (f := 29) rfl ?_); refine goesL_ (some 18) rfl rfl Try.func29 (by kernel_rfl) rfl #[.int .i64 a0, .int .i64 4, .int .i64 10] rfl eqQ ?_; (with_reducible refine (spec_l1In.calls a0 4 10 true _ A7.out).mono ?_); rintro e w' ⟨rfl, ⟨nd, rfl⟩⟩; refine ⟨_, rfl, ?_⟩))); (go_ret); (exact ⟨by first | rfl | (simp; done) | (simp [*]; done), by repeat (first | exact Drawn0.refl _ | apply Drawn0.step)⟩))); (focus ((replace c8 := Bool.eq_false_iff.mpr c8); (subst c8); (have H1 : (some (-1)) = some r := by rw [if_neg (show ¬ (false = true) by decide)] at H; exact H); (clear H); (have H := H1); (clear H1); (obtain rfl := Option.some.inj H); (go_wp2_with (first | ((with_reducible refine gate_callee (f := 29) rfl ?_); refine goesL_ (some 18) rfl rfl Try.func29 (by kernel_rfl) rfl #[.int .i64 a0, .int .i64 4, .int .i64 10] rfl eqQ ?_; (with_reducible refine (spec_l1In.calls a0 4 10 false _ A7.out).mono ?_); rintro e w' ⟨rfl, ⟨nd, rfl⟩⟩; refine ⟨_, rfl, ?_⟩))); (go_ret); (exact ⟨by first | rfl | (simp; done) | (simp [*]; done), by repeat (first | exact Drawn0.refl _ | apply Drawn0.step)⟩)))))))

/-! ### spec_l12Arity: function 40 -/
def spec_l12Arity.f (k : Nat) (a0 : Int) : Option (Int) := if a0 = 12 then (some 1) else (if a0 = 13 then (some 2) else (if a0 = 2 then (some (-1)) else ((spec_l1Arity.f k a0).bind fun t209 => (some t209))))
set_option maxHeartbeats 8000000 in
set_option maxRecDepth 100000 in
theorem spec_l12Arity.calls (k : Nat) (a0 : Int) (r : Int) (w : World) (h : spec_l12Arity.f k a0 = some r) :
    Calls Try.prog 40 #[.int .i64 a0] w fun e w' => e = .returned (.int .i64 r) ∧ Drawn0 w w' := by
  (have H : (if a0 = 12 then (some 1) else (if a0 = 13 then (some 2) else (if a0 = 2 then (some (-1)) else ((spec_l1Arity.f k a0).bind fun t209 => (some t209))))) = some r := h); (clear h); (by_cases c2 : a0 = 12)
  (focus ((rw [if_pos c2] at H); (have c2b0 : (a0 == 12) = true := beq_iff_eq.mpr c2); (have c2b1 : (a0 != 12) = false := bne_eq_false_iff_eq.mpr c2); (clear c2); (obtain rfl := Option.some.inj H); (go_enter Try.func40, Try.ntmps40); (go_wp2); (go_ret); (exact ⟨by first | rfl | (simp; done) | (simp [*]; done), by repeat (first | exact Drawn0.refl _ | apply Drawn0.step)⟩))); (focus ((rw [if_neg c2] at H); (have c2b0 : (a0 == 12) = false := beq_eq_false_iff_ne.mpr c2); (have c2b1 : (a0 != 12) = true := bne_iff_ne.mpr c2); (by_cases c3 : a0 = 13); (focus ((rw [if_pos c3] at H); (have c3b0 : (a0 == 13) = true := beq_iff_eq.mpr c3); (have c3b1 : (a0 != 13) = false := bne_eq_false_iff_eq.mpr c3); (clear c3); (obtain rfl := Option.some.inj H); (go_enter Try.func40, Try.ntmps40); (go_wp2); (go_ret); (exact ⟨by first | rfl | (simp; done) | (simp [*]; done), by repeat (first | exact Drawn0.refl _ | apply Drawn0.step)⟩))); (focus ((rw [if_neg c3] at H); (have c3b0 : (a0 == 13) = false := beq_eq_false_iff_ne.mpr c3); (have c3b1 : (a0 != 13) = true := bne_iff_ne.mpr c3); (by_cases c4 : a0 = 2); (focus ((rw [if_pos c4] at H); (have c4b0 : (a0 == 2) = true := beq_iff_eq.mpr c4); (have c4b1 : (a0 != 2) = false := bne_eq_false_iff_eq.mpr c4); (clear c4); (obtain rfl := Option.some.inj H); (go_enter Try.func40, Try.ntmps40); (go_wp2); (go_ret); (exact ⟨by first | rfl | (simp; done) | (simp [*]; done), by repeat (first | exact Drawn0.refl _ | apply Drawn0.step)⟩))); (focus ((rw [if_neg c4] at H); (have c4b0 : (a0 == 2) = false := beq_eq_false_iff_ne.mpr c4); (have c4b1 : (a0 != 2) = true := bne_iff_ne.mpr c4); (replace H := Option.bind_eq_some_iff.mp H); (obtain ⟨t209, A50, H⟩ := H); (replace H : (some t209) = some r := H); (have A5 := Aside0.mk A50); (clear A50); (obtain rfl := Option.some.inj H); (go_enter Try.func40, Try.ntmps40); (go_wp2_with (first | ((with_reducible refine gate_callee (f := 60) rfl ?_); refine goesL_ (some 11) rfl rfl Try.func60 (by kernel_rfl) rfl #[.int .i64 a0] rfl eqQ ?_; (with_reducible refine (spec_l1Arity.calls k a0 t209 _ A5.out).mono ?_); rintro e w' ⟨rfl, ⟨nd, rfl⟩⟩; refine ⟨_, rfl, ?_⟩))); (go_ret); (exact ⟨by first | rfl | (simp; done) | (simp [*]; done), by repeat (first | exact Drawn0.refl _ | apply Drawn0.step)⟩)))))))

/-! ### spec_l1All: function 41 -/
def spec_l1All.l0 : Nat → Int → Int → List Int → Int → Int → Option (Bool)
  | 0, _, _, _, _, _ => none
  | k + 1, x1, x2, x9, x10, x11 => if x11 < x10 then (if 0 ≤ x11 then (if x11 < (x9.length : Int) then ((spec_l1In.f (rd x9 x11) x1 x2).bind fun t211 => (if t211 = true then (spec_l1All.l0 k x1 x2 x9 x10 (wrap64 (x11 + 1))) else (some false))) else (none)) else (none)) else (some true)
def spec_l1All.f (k : Nat) (l0 : List Int) (a1 : Int) (a2 : Int) : Option (Bool) := spec_l1All.l0 k a1 a2 l0 (l0.length : Int) 0
set_option maxHeartbeats 8000000 in
set_option maxRecDepth 100000 in
theorem spec_l1All.calls (k : Nat) (A0 : Option Addr) (c0 : Nat) (l0 : List Int) (a1 : Int) (a2 : Int) (r : Bool) (w : World) (hr0 : Kd.C (Kd.int .i64) w A0 l0.length l0) (hc0 : l0.length ≤ c0) (h : spec_l1All.f k l0 a1 a2 = some r) :
    Calls Try.prog 41 #[.slice A0 l0.length c0, .int .i64 a1, .int .i64 a2] w fun e w' => e = .returned (.bool r) ∧ Drawn0 w w' := by
  (have HR0 := Aside0.mk hr0); (have HC0 := Aside0.mk hc0); (clear hr0 hc0); (have H : (spec_l1All.l0 k a1 a2 l0 (l0.length : Int) 0) = some r := h); (clear h); (have H' := Aside0.mk H); (clear H); (go_enter Try.func41, Try.ntmps41); (go_wp2)
  go_loopg [11] k (fun kq v11 w' => ∃ (x11_1 : Int), v11 = .int .i64 x11_1 ∧ Aside0 (spec_l1All.l0 kq a1 a2 l0 (l0.length : Int) x11_1 = some r) ∧ Aside0 (kq ≤ k) ∧ Drawn0 w w')
  case atStart => exact ⟨(0), (by first | rfl | (simp; done) | (simp [*]; done)), H', ⟨Nat.le_refl _⟩, by repeat (first | exact Drawn0.refl _ | apply Drawn0.step)⟩
  case round =>
    (clear H'); (try clear p2); (obtain ⟨x11_1, rfl, HA, HK1, ⟨m1, rfl⟩⟩ := hrel)
    cases gk with
    | zero => exact absurd HA.out (by simp [spec_l1All.l0])
    | succ k1 =>
      (have H := HA.out); (clear HA); (simp only [spec_l1All.l0] at H); (by_cases c4 : x11_1 < (l0.length : Int))
      · rw [if_pos c4] at H
        (have c4b0 : decide (x11_1 < (l0.length : Int)) = true := decide_eq_true c4); (clear c4); (by_cases c5 : 0 ≤ x11_1)
        · rw [if_pos c5] at H
          (have c5b0 : decide (0 ≤ x11_1) = true := decide_eq_true c5); (clear c5); (by_cases c6 : x11_1 < (l0.length : Int))
          · rw [if_pos c6] at H
            (have c6b0 : decide (x11_1 < (l0.length : Int)) = true := decide_eq_true c6); (clear c6); (replace H := Option.bind_eq_some_iff.mp H); (obtain ⟨t211, A70, H⟩ := H); (replace H : (if t211 = true then (spec_l1All.l0 k1 a1 a2 l0 (l0.length : Int) (wrap64 (x11_1 + 1))) else (some false)) = some r := H); (have A7 := Aside0.mk A70); (clear A70); (by_cases c8 : t211 = true)
            · subst c8
              (have H1 : (spec_l1All.l0 k1 a1 a2 l0 (l0.length : Int) (wrap64 (x11_1 + 1))) = some r := by rw [if_pos rfl] at H; exact H); (clear H); (have H := H1); (clear H1); (have H' := Aside0.mk H); (clear H); (have p210 : 0 ≤ (x11_1 : Int) := odQ); (have q210 : x11_1 < (l0.length : Int) := odQ); (obtain ⟨ad210, e210, hx210_0⟩ := Kd.at_int HR0.out x11_1 p210 q210); (cases e210); (replace p210 := eq_true p210); (replace q210 := eq_true q210); (go_wp2_with (first | ((with_reducible refine gate_callee (f := 29) rfl ?_); refine goesL_ (some 18) rfl rfl Try.func29 (by kernel_rfl) rfl #[.int .i64 (rd l0 x11_1), .int .i64 a1, .int .i64 a2] rfl eqQ ?_; (with_reducible refine (spec_l1In.calls (rd l0 x11_1) a1 a2 true _ A7.out).mono ?_); rintro e w' ⟨rfl, ⟨nd, rfl⟩⟩; refine ⟨_, rfl, ?_⟩))); (go_roundg k1)
              case measure => have := HK1.out; omega
              case rel => exact ⟨(wrap64 (x11_1 + 1)), (by first | rfl | (simp; done) | (simp [*]; done)), H', ⟨by have := HK1.out; omega⟩, by repeat (first | exact Drawn0.refl _ | apply Drawn0.step)⟩
            (focus ((replace c8 := Bool.eq_false_iff.mpr c8); (subst c8); (have H1 : (some false) = some r := by rw [if_neg (show ¬ (false = true) by decide)] at H; exact H); (clear H); (have H := H1); (clear H1); (obtain rfl := Option.some.inj H); (have p210 : 0 ≤ (x11_1 : Int) := odQ); (have q210 : x11_1 < (l0.length : Int) := odQ); (obtain ⟨ad210, e210, hx210_0⟩ := Kd.at_int HR0.out x11_1 p210 q210); (cases e210); (replace p210 := eq_true p210); (replace q210 := eq_true q210); (go_wp2_with (first | ((with_reducible refine gate_callee (f := 29) rfl ?_); refine goesL_ (some 18) rfl rfl Try.func29 (by kernel_rfl) rfl #[.int .i64 (rd l0 x11_1), .int .i64 a1, .int .i64 a2] rfl eqQ ?_; (with_reducible refine (spec_l1In.calls (rd l0 x11_1) a1 a2 false _ A7.out).mono ?_); rintro e w' ⟨rfl, ⟨nd, rfl⟩⟩; refine ⟨_, rfl, ?_⟩))); (go_ret); (exact ⟨by first | rfl | (simp; done) | (simp [*]; done), by repeat (first | exact Drawn0.refl _ | apply Drawn0.step)⟩)))
          (focus ((rw [if_neg c6] at H); (exact absurd H (by simp))))
        (focus ((rw [if_neg c5] at H); (exact absurd H (by simp))))
      (focus ((rw [if_neg c4] at H); (have c4b0 : decide (x11_1 < (l0.length : Int)) = false := decide_eq_false c4); (clear c4); (obtain rfl := Option.some.inj H); (go_wp2); (go_ret); (exact ⟨by first | rfl | (simp; done) | (simp [*]; done), by repeat (first | exact Drawn0.refl _ | apply Drawn0.step)⟩)))

end Go.Proofs.Ytpklnipnggocoaa.PFnExactCostOfFunc
