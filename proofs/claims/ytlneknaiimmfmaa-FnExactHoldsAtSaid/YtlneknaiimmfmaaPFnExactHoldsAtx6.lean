/- Functions of the program and of the reference as plain Lean functions, and what their calls come to; partly printed by a program, partly by hand; no condition beyond what each theorem says. -/
import Derived.Test.YtlneknaiimmfmaaPFnExactHoldsAtx0
import Derived.Test.YtlneknaiimmfmaaPFnExactHoldsAtx5
namespace Go.Proofs.Ytlneknaiimmfmaa.PFnExactHoldsAt
open Go.RowKit Go.Proofs.YtlneknaiimmfmaaW.PrintWords Go.Proofs.YtlneknaiimmfmaaW.PrintLast Go.Proofs.YtlneknaiimmfmaaW.PrintMore
attribute [local go_sem] max2_int min2_int max_two min_two max_three min_three max_four min_four   -- for this text's walks alone
set_option linter.unusedVariables false
set_option linter.unusedSimpArgs false

/-! ### impl_doOp: function 142 -/
def impl_doOp.f (a0 : Int) (l1 : List Int) : Option (Int × Bool) := if a0 = 3 then (if 0 < (l1.length : Int) then (some (wrap64 (-(rd l1 0)), false)) else (none)) else (if a0 = 4 then (if 0 < (l1.length : Int) then (if 1 < (l1.length : Int) then (some (wrap64 ((rd l1 0) + (rd l1 1)), false)) else (none)) else (none)) else (if a0 = 5 then (if 0 < (l1.length : Int) then (if 1 < (l1.length : Int) then (some (wrap64 ((rd l1 0) - (rd l1 1)), false)) else (none)) else (none)) else (if a0 = 6 then (if 0 < (l1.length : Int) then (if 1 < (l1.length : Int) then (some (wrap64 ((rd l1 0) * (rd l1 1)), false)) else (none)) else (none)) else (if a0 = 7 then (if 0 < (l1.length : Int) then (if 1 < (l1.length : Int) then (if 0 ≤ (Int.tmod (IntKind.u64.wrap (rd l1 1)) 64) then (some (shl .i64 (rd l1 0) (Int.tmod (IntKind.u64.wrap (rd l1 1)) 64), false)) else (none)) else (none)) else (none)) else (if a0 = 8 then (if 1 < (l1.length : Int) then (if (rd l1 1) = 0 then (some (0, true)) else (if 0 < (l1.length : Int) then (some (wrap64 (Int.tdiv (rd l1 0) (rd l1 1)), false)) else (none))) else (none)) else (if a0 = 9 then (if 0 < (l1.length : Int) then (if 1 < (l1.length : Int) then ((impl_oneIf.f ((rd l1 0) == (rd l1 1))).bind fun t230 => (some (t230, false))) else (none)) else (none)) else (if a0 = 10 then (if 0 < (l1.length : Int) then (if 1 < (l1.length : Int) then ((impl_oneIf.f (decide ((rd l1 0) < (rd l1 1)))).bind fun t233 => (some (t233, false))) else (none)) else (none)) else (if 0 < (l1.length : Int) then (if (rd l1 0) = 0 then (if 2 < (l1.length : Int) then (some (rd l1 2, false)) else (none)) else (if 1 < (l1.length : Int) then (some (rd l1 1, false)) else (none))) else (none)))))))))
set_option maxHeartbeats 8000000 in
set_option maxRecDepth 100000 in
theorem impl_doOp.calls (a0 : Int) (A1 : Option Addr) (c1 : Nat) (l1 : List Int) (r1 : Int) (r2 : Bool) (w : World) (hr1 : Kd.C (Kd.int .i64) w A1 l1.length l1) (hc1 : l1.length ≤ c1) (h : impl_doOp.f a0 l1 = some (r1, r2)) :
    Calls Try.prog 142 #[.int .i64 a0, .slice A1 l1.length c1] w fun e w' => e = .returned (.tuple #[.int .i64 r1, .bool r2]) ∧ Drawn0 w w' := by
  have HR1 := Aside0.mk hr1
  have HC1 := Aside0.mk hc1
  clear hr1 hc1
  have H : (if a0 = 3 then (if 0 < (l1.length : Int) then (some (wrap64 (-(rd l1 0)), false)) else (none)) else (if a0 = 4 then (if 0 < (l1.length : Int) then (if 1 < (l1.length : Int) then (some (wrap64 ((rd l1 0) + (rd l1 1)), false)) else (none)) else (none)) else (if a0 = 5 then (if 0 < (l1.length : Int) then (if 1 < (l1.length : Int) then (some (wrap64 ((rd l1 0) - (rd l1 1)), false)) else (none)) else (none)) else (if a0 = 6 then (if 0 < (l1.length : Int) then (if 1 < (l1.length : Int) then (some (wrap64 ((rd l1 0) * (rd l1 1)), false)) else (none)) else (none)) else (if a0 = 7 then (if 0 < (l1.length : Int) then (if 1 < (l1.length : Int) then (if 0 ≤ (Int.tmod (IntKind.u64.wrap (rd l1 1)) 64) then (some (shl .i64 (rd l1 0) (Int.tmod (IntKind.u64.wrap (rd l1 1)) 64), false)) else (none)) else (none)) else (none)) else (if a0 = 8 then (if 1 < (l1.length : Int) then (if (rd l1 1) = 0 then (some (0, true)) else (if 0 < (l1.length : Int) then (some (wrap64 (Int.tdiv (rd l1 0) (rd l1 1)), false)) else (none))) else (none)) else (if a0 = 9 then (if 0 < (l1.length : Int) then (if 1 < (l1.length : Int) then ((impl_oneIf.f ((rd l1 0) == (rd l1 1))).bind fun t230 => (some (t230, false))) else (none)) else (none)) else (if a0 = 10 then (if 0 < (l1.length : Int) then (if 1 < (l1.length : Int) then ((impl_oneIf.f (decide ((rd l1 0) < (rd l1 1)))).bind fun t233 => (some (t233, false))) else (none)) else (none)) else (if 0 < (l1.length : Int) then (if (rd l1 0) = 0 then (if 2 < (l1.length : Int) then (some (rd l1 2, false)) else (none)) else (if 1 < (l1.length : Int) then (some (rd l1 1, false)) else (none))) else (none)))))))))) = some (r1, r2) := h
  clear h
  by_cases c3 : a0 = 3
  · rw [if_pos c3] at H
    have c3b0 : (a0 == 3) = true := beq_iff_eq.mpr c3
    have c3b1 : (a0 != 3) = false := bne_eq_false_iff_eq.mpr c3
    clear c3
    by_cases c4 : 0 < (l1.length : Int)
    · rw [if_pos c4] at H
      have c4b0 : decide (0 < (l1.length : Int)) = true := decide_eq_true c4
      have c4b1 : decide (0 < l1.length) = true := decide_eq_true (by omega)
      clear c4
      simp only [Option.some.injEq, Prod.mk.injEq] at H
      obtain ⟨rfl, rfl⟩ := H
      have p216 : 0 ≤ (0 : Int) := (by omega)
      have q216 : 0 < (l1.length : Int) := of_decide_eq_true (by first | (with_reducible assumption) | assumption)
      obtain ⟨ad216, e216, hx216_0⟩ := Kd.at_int HR1.out 0 p216 q216
      cases e216
      have qi216 : (0 < l1.length) = True := eq_true (by omega)
      (try rw [show ((0 : Int)).toNat = 0 from rfl] at hx216_0)
      (try rw [Addr.add_zero'] at hx216_0)
      replace p216 := eq_true p216
      replace q216 := eq_true q216
      go_enter Try.func142, Try.ntmps142
      go_wp2
      repeat (go_quiet (fail); try go_wp2)
      go_ret2
      exact ⟨by first | rfl | (simp; done) | (simp [*]; done), by repeat (first | exact Drawn0.refl _ | apply Drawn0.step)⟩
    · rw [if_neg c4] at H
      exact absurd H (by simp)
  · rw [if_neg c3] at H
    have c3b0 : (a0 == 3) = false := beq_eq_false_iff_ne.mpr c3
    have c3b1 : (a0 != 3) = true := bne_iff_ne.mpr c3
    by_cases c5 : a0 = 4
    · rw [if_pos c5] at H
      have c5b0 : (a0 == 4) = true := beq_iff_eq.mpr c5
      have c5b1 : (a0 != 4) = false := bne_eq_false_iff_eq.mpr c5
      clear c5
      by_cases c6 : 0 < (l1.length : Int)
      · rw [if_pos c6] at H
        have c6b0 : decide (0 < (l1.length : Int)) = true := decide_eq_true c6
        have c6b1 : decide (0 < l1.length) = true := decide_eq_true (by omega)
        clear c6
        by_cases c7 : 1 < (l1.length : Int)
        · rw [if_pos c7] at H
          have c7b0 : decide (1 < (l1.length : Int)) = true := decide_eq_true c7
          have c7b1 : decide (1 < l1.length) = true := decide_eq_true (by omega)
          clear c7
          simp only [Option.some.injEq, Prod.mk.injEq] at H
          obtain ⟨rfl, rfl⟩ := H
          have p217 : 0 ≤ (0 : Int) := (by omega)
          have q217 : 0 < (l1.length : Int) := of_decide_eq_true (by first | (with_reducible assumption) | assumption)
          obtain ⟨ad217, e217, hx217_0⟩ := Kd.at_int HR1.out 0 p217 q217
          cases e217
          have qi217 : (0 < l1.length) = True := eq_true (by omega)
          (try rw [show ((0 : Int)).toNat = 0 from rfl] at hx217_0)
          (try rw [Addr.add_zero'] at hx217_0)
          replace p217 := eq_true p217
          replace q217 := eq_true q217
          have p218 : 0 ≤ (1 : Int) := (by omega)
          have q218 : 1 < (l1.length : Int) := of_decide_eq_true (by first | (with_reducible assumption) | assumption)
          obtain ⟨ad218, e218, hx218_0⟩ := Kd.at_int HR1.out 1 p218 q218
          obtain rfl : ad217 = ad218 := (by injection e218)
          (try simp only [show (1 : Int).toNat = 1 from rfl, Nat.reduceMul, Nat.reduceEqDiff, Go.Addr.add, ↓reduceIte] at hx218_0)
          have qi218 : (1 < l1.length) = True := eq_true (by omega)
          (try rw [show ((1 : Int)).toNat = 1 from rfl] at hx218_0)
          replace p218 := eq_true p218
          replace q218 := eq_true q218
          go_enter Try.func142, Try.ntmps142
          go_wp2
          repeat (go_quiet (fail); try go_wp2)
          go_ret2
          exact ⟨by first | rfl | (simp; done) | (simp [*]; done), by repeat (first | exact Drawn0.refl _ | apply Drawn0.step)⟩
        · rw [if_neg c7] at H
          exact absurd H (by simp)
      · rw [if_neg c6] at H
        exact absurd H (by simp)
    · rw [if_neg c5] at H
      have c5b0 : (a0 == 4) = false := beq_eq_false_iff_ne.mpr c5
      have c5b1 : (a0 != 4) = true := bne_iff_ne.mpr c5
      by_cases c8 : a0 = 5
      · rw [if_pos c8] at H
        have c8b0 : (a0 == 5) = true := beq_iff_eq.mpr c8
        have c8b1 : (a0 != 5) = false := bne_eq_false_iff_eq.mpr c8
        clear c8
        by_cases c9 : 0 < (l1.length : Int)
        · rw [if_pos c9] at H
          have c9b0 : decide (0 < (l1.length : Int)) = true := decide_eq_true c9
          have c9b1 : decide (0 < l1.length) = true := decide_eq_true (by omega)
          clear c9
          by_cases c10 : 1 < (l1.length : Int)
          · rw [if_pos c10] at H
            have c10b0 : decide (1 < (l1.length : Int)) = true := decide_eq_true c10
            have c10b1 : decide (1 < l1.length) = true := decide_eq_true (by omega)
            clear c10
            simp only [Option.some.injEq, Prod.mk.injEq] at H
            obtain ⟨rfl, rfl⟩ := H
            have p219 : 0 ≤ (0 : Int) := (by omega)
            have q219 : 0 < (l1.length : Int) := of_decide_eq_true (by first | (with_reducible assumption) | assumption)
            obtain ⟨ad219, e219, hx219_0⟩ := Kd.at_int HR1.out 0 p219 q219
            cases e219
            have qi219 : (0 < l1.length) = True := eq_true (by omega)
            (try rw [show ((0 : Int)).toNat = 0 from rfl] at hx219_0)
            (try rw [Addr.add_zero'] at hx219_0)
            replace p219 := eq_true p219
            replace q219 := eq_true q219
            have p220 : 0 ≤ (1 : Int) := (by omega)
            have q220 : 1 < (l1.length : Int) := of_decide_eq_true (by first | (with_reducible assumption) | assumption)
            obtain ⟨ad220, e220, hx220_0⟩ := Kd.at_int HR1.out 1 p220 q220
            obtain rfl : ad219 = ad220 := (by injection e220)
            (try simp only [show (1 : Int).toNat = 1 from rfl, Nat.reduceMul, Nat.reduceEqDiff, Go.Addr.add, ↓reduceIte] at hx220_0)
            have qi220 : (1 < l1.length) = True := eq_true (by omega)
            (try rw [show ((1 : Int)).toNat = 1 from rfl] at hx220_0)
            replace p220 := eq_true p220
            replace q220 := eq_true q220
            go_enter Try.func142, Try.ntmps142
            go_wp2
            repeat (go_quiet (fail); try go_wp2)
            go_ret2
            exact ⟨by first | rfl | (simp; done) | (simp [*]; done), by repeat (first | exact Drawn0.refl _ | apply Drawn0.step)⟩
          · rw [if_neg c10] at H
            exact absurd H (by simp)
        · rw [if_neg c9] at H
          exact absurd H (by simp)
      · rw [if_neg c8] at H
        have c8b0 : (a0 == 5) = false := beq_eq_false_iff_ne.mpr c8
        have c8b1 : (a0 != 5) = true := bne_iff_ne.mpr c8
        by_cases c11 : a0 = 6
        · rw [if_pos c11] at H
          have c11b0 : (a0 == 6) = true := beq_iff_eq.mpr c11
          have c11b1 : (a0 != 6) = false := bne_eq_false_iff_eq.mpr c11
          clear c11
          by_cases c12 : 0 < (l1.length : Int)
          · rw [if_pos c12] at H
            have c12b0 : decide (0 < (l1.length : Int)) = true := decide_eq_true c12
            have c12b1 : decide (0 < l1.length) = true := decide_eq_true (by omega)
            clear c12
            by_cases c13 : 1 < (l1.length : Int)
            · rw [if_pos c13] at H
              have c13b0 : decide (1 < (l1.length : Int)) = true := decide_eq_true c13
              have c13b1 : decide (1 < l1.length) = true := decide_eq_true (by omega)
              clear c13
              simp only [Option.some.injEq, Prod.mk.injEq] at H
              obtain ⟨rfl, rfl⟩ := H
              have p221 : 0 ≤ (0 : Int) := (by omega)
              have q221 : 0 < (l1.length : Int) := of_decide_eq_true (by first | (with_reducible assumption) | assumption)
              obtain ⟨ad221, e221, hx221_0⟩ := Kd.at_int HR1.out 0 p221 q221
              cases e221
              have qi221 : (0 < l1.length) = True := eq_true (by omega)
              (try rw [show ((0 : Int)).toNat = 0 from rfl] at hx221_0)
              (try rw [Addr.add_zero'] at hx221_0)
              replace p221 := eq_true p221
              replace q221 := eq_true q221
              have p222 : 0 ≤ (1 : Int) := (by omega)
              have q222 : 1 < (l1.length : Int) := of_decide_eq_true (by first | (with_reducible assumption) | assumption)
              obtain ⟨ad222, e222, hx222_0⟩ := Kd.at_int HR1.out 1 p222 q222
              obtain rfl : ad221 = ad222 := (by injection e222)
              (try simp only [show (1 : Int).toNat = 1 from rfl, Nat.reduceMul, Nat.reduceEqDiff, Go.Addr.add, ↓reduceIte] at hx222_0)
              have qi222 : (1 < l1.length) = True := eq_true (by omega)
              (try rw [show ((1 : Int)).toNat = 1 from rfl] at hx222_0)
              replace p222 := eq_true p222
              replace q222 := eq_true q222
              go_enter Try.func142, Try.ntmps142
              go_wp2
              repeat (go_quiet (fail); try go_wp2)
              go_ret2
              exact ⟨by first | rfl | (simp; done) | (simp [*]; done), by repeat (first | exact Drawn0.refl _ | apply Drawn0.step)⟩
            · rw [if_neg c13] at H
              exact absurd H (by simp)
          · rw [if_neg c12] at H
            exact absurd H (by simp)
        · rw [if_neg c11] at H
          have c11b0 : (a0 == 6) = false := beq_eq_false_iff_ne.mpr c11
          have c11b1 : (a0 != 6) = true := bne_iff_ne.mpr c11
          by_cases c14 : a0 = 7
          · rw [if_pos c14] at H
            have c14b0 : (a0 == 7) = true := beq_iff_eq.mpr c14
            have c14b1 : (a0 != 7) = false := bne_eq_false_iff_eq.mpr c14
            clear c14
            by_cases c15 : 0 < (l1.length : Int)
            · rw [if_pos c15] at H
              have c15b0 : decide (0 < (l1.length : Int)) = true := decide_eq_true c15
              have c15b1 : decide (0 < l1.length) = true := decide_eq_true (by omega)
              clear c15
              by_cases c16 : 1 < (l1.length : Int)
              · rw [if_pos c16] at H
                have c16b0 : decide (1 < (l1.length : Int)) = true := decide_eq_true c16
                have c16b1 : decide (1 < l1.length) = true := decide_eq_true (by omega)
                clear c16
                obtain ⟨ji17, hji17⟩ : ∃ j_ : Int, (Int.tmod (IntKind.u64.wrap (rd l1 1)) 64) = j_ := ⟨_, rfl⟩
                replace H : (if 0 ≤ (ji17) then (some (shl .i64 (rd l1 0) (ji17), false)) else (none)) = some (r1, r2) := by first | (rw [hji17] at H; exact H) | (simp only [hji17] at H ⊢; exact H)
                by_cases c18 : 0 ≤ (ji17)
                · rw [if_pos c18] at H
                  have c18b0 := eq_true c18
                  have c18b1 : decide (0 ≤ (ji17)) = true := decide_eq_true c18
                  clear c18
                  obtain ⟨ji19, hji19⟩ : ∃ j_ : Int, (shl .i64 (rd l1 0) (ji17)) = j_ := ⟨_, rfl⟩
                  replace H : (some (ji19, false)) = some (r1, r2) := by first | (rw [hji19] at H; exact H) | (simp only [hji19] at H ⊢; exact H)
                  have hji19_ : (IntKind.i64.wrap ((rd l1 0) * 2 ^ min (ji17).toNat 64)) = ji19 := hji19
                  have hji19z : (ji17) ≤ 64 → (IntKind.i64.wrap ((rd l1 0) * 2 ^ (ji17).toNat)) = ji19 := shl_small hji19
                  have hji19y : (wrap64 ((rd l1 0) * 2 ^ min (ji17).toNat 64)) = ji19 := (i64_w _).symm.trans hji19_
                  have hji19x : (ji17) ≤ 64 → (wrap64 ((rd l1 0) * 2 ^ (ji17).toNat)) = ji19 := fun h_ => (i64_w _).symm.trans (hji19z h_)
                  simp only [Option.some.injEq, Prod.mk.injEq] at H
                  obtain ⟨rfl, rfl⟩ := H
                  have p223 : 0 ≤ (0 : Int) := (by omega)
                  have q223 : 0 < (l1.length : Int) := of_decide_eq_true (by first | (with_reducible assumption) | assumption)
                  obtain ⟨ad223, e223, hx223_0⟩ := Kd.at_int HR1.out 0 p223 q223
                  cases e223
                  have qi223 : (0 < l1.length) = True := eq_true (by omega)
                  (try rw [show ((0 : Int)).toNat = 0 from rfl] at hx223_0)
                  (try rw [Addr.add_zero'] at hx223_0)
                  replace p223 := eq_true p223
                  replace q223 := eq_true q223
                  have p224 : 0 ≤ (1 : Int) := (by omega)
                  have q224 : 1 < (l1.length : Int) := of_decide_eq_true (by first | (with_reducible assumption) | assumption)
                  obtain ⟨ad224, e224, hx224_0⟩ := Kd.at_int HR1.out 1 p224 q224
                  obtain rfl : ad223 = ad224 := (by injection e224)
                  (try simp only [show (1 : Int).toNat = 1 from rfl, Nat.reduceMul, Nat.reduceEqDiff, Go.Addr.add, ↓reduceIte] at hx224_0)
                  have qi224 : (1 < l1.length) = True := eq_true (by omega)
                  (try rw [show ((1 : Int)).toNat = 1 from rfl] at hx224_0)
                  replace p224 := eq_true p224
                  replace q224 := eq_true q224
                  go_enter Try.func142, Try.ntmps142
                  go_wp2
                  repeat (go_quiet (fail); try go_wp2)
                  go_ret2
                  exact ⟨by first | rfl | (simp; done) | (simp only [← hji17, ← hji19] <;> (first | rfl | simp)) | (simp [*]; done), by repeat (first | exact Drawn0.refl _ | apply Drawn0.step)⟩
                · rw [if_neg c18] at H
                  exact absurd H (by simp)
              · rw [if_neg c16] at H
                exact absurd H (by simp)
            · rw [if_neg c15] at H
              exact absurd H (by simp)
          · rw [if_neg c14] at H
            have c14b0 : (a0 == 7) = false := beq_eq_false_iff_ne.mpr c14
            have c14b1 : (a0 != 7) = true := bne_iff_ne.mpr c14
            by_cases c20 : a0 = 8
            · rw [if_pos c20] at H
              have c20b0 : (a0 == 8) = true := beq_iff_eq.mpr c20
              have c20b1 : (a0 != 8) = false := bne_eq_false_iff_eq.mpr c20
              clear c20
              by_cases c21 : 1 < (l1.length : Int)
              · rw [if_pos c21] at H
                have c21b0 : decide (1 < (l1.length : Int)) = true := decide_eq_true c21
                have c21b1 : decide (1 < l1.length) = true := decide_eq_true (by omega)
                clear c21
                by_cases c22 : (rd l1 1) = 0
                · rw [if_pos c22] at H
                  have c22b0 : ((rd l1 1) == 0) = true := beq_iff_eq.mpr c22
                  have c22b1 : ((rd l1 1) != 0) = false := bne_eq_false_iff_eq.mpr c22
                  clear c22
                  simp only [Option.some.injEq, Prod.mk.injEq] at H
                  obtain ⟨rfl, rfl⟩ := H
                  have p225 : 0 ≤ (1 : Int) := (by omega)
                  have q225 : 1 < (l1.length : Int) := of_decide_eq_true (by first | (with_reducible assumption) | assumption)
                  obtain ⟨ad225, e225, hx225_0⟩ := Kd.at_int HR1.out 1 p225 q225
                  cases e225
                  (try simp only [show (1 : Int).toNat = 1 from rfl, Nat.reduceMul, Nat.reduceEqDiff, Go.Addr.add, ↓reduceIte] at hx225_0)
                  have qi225 : (1 < l1.length) = True := eq_true (by omega)
                  (try rw [show ((1 : Int)).toNat = 1 from rfl] at hx225_0)
                  replace p225 := eq_true p225
                  replace q225 := eq_true q225
                  go_enter Try.func142, Try.ntmps142
                  go_wp2
                  repeat (go_quiet (fail); try go_wp2)
                  go_ret2
                  exact ⟨by first | rfl | (simp; done) | (simp [*]; done), by repeat (first | exact Drawn0.refl _ | apply Drawn0.step)⟩
                · rw [if_neg c22] at H
                  have c22b0 : ((rd l1 1) == 0) = false := beq_eq_false_iff_ne.mpr c22
                  have c22b1 : ((rd l1 1) != 0) = true := bne_iff_ne.mpr c22
                  by_cases c23 : 0 < (l1.length : Int)
                  · rw [if_pos c23] at H
                    have c23b0 : decide (0 < (l1.length : Int)) = true := decide_eq_true c23
                    have c23b1 : decide (0 < l1.length) = true := decide_eq_true (by omega)
                    clear c23
                    simp only [Option.some.injEq, Prod.mk.injEq] at H
                    obtain ⟨rfl, rfl⟩ := H
                    have p225 : 0 ≤ (1 : Int) := (by omega)
                    have q225 : 1 < (l1.length : Int) := of_decide_eq_true (by first | (with_reducible assumption) | assumption)
                    obtain ⟨ad225, e225, hx225_0⟩ := Kd.at_int HR1.out 1 p225 q225
                    cases e225
                    (try simp only [show (1 : Int).toNat = 1 from rfl, Nat.reduceMul, Nat.reduceEqDiff, Go.Addr.add, ↓reduceIte] at hx225_0)
                    have qi225 : (1 < l1.length) = True := eq_true (by omega)
                    (try rw [show ((1 : Int)).toNat = 1 from rfl] at hx225_0)
                    replace p225 := eq_true p225
                    replace q225 := eq_true q225
                    have p226 : 0 ≤ (0 : Int) := (by omega)
                    have q226 : 0 < (l1.length : Int) := of_decide_eq_true (by first | (with_reducible assumption) | assumption)
                    obtain ⟨ad226, e226, hx226_0⟩ := Kd.at_int HR1.out 0 p226 q226
                    obtain rfl : ad225 = ad226 := (by injection e226)
                    have qi226 : (0 < l1.length) = True := eq_true (by omega)
                    (try rw [show ((0 : Int)).toNat = 0 from rfl] at hx226_0)
                    (try rw [Addr.add_zero'] at hx226_0)
                    replace p226 := eq_true p226
                    replace q226 := eq_true q226
                    have p227 : 0 ≤ (1 : Int) := (by omega)
                    have q227 : 1 < (l1.length : Int) := of_decide_eq_true (by first | (with_reducible assumption) | assumption)
                    obtain ⟨ad227, e227, hx227_0⟩ := Kd.at_int HR1.out 1 p227 q227
                    obtain rfl : ad225 = ad227 := (by injection e227)
                    (try simp only [show (1 : Int).toNat = 1 from rfl, Nat.reduceMul, Nat.reduceEqDiff, Go.Addr.add, ↓reduceIte] at hx227_0)
                    have qi227 : (1 < l1.length) = True := eq_true (by omega)
                    (try rw [show ((1 : Int)).toNat = 1 from rfl] at hx227_0)
                    replace p227 := eq_true p227
                    replace q227 := eq_true q227
                    go_enter Try.func142, Try.ntmps142
                    go_wp2
                    repeat (go_quiet (fail); try go_wp2)
                    go_ret2
                    exact ⟨by first | rfl | (simp; done) | (simp [*]; done), by repeat (first | exact Drawn0.refl _ | apply Drawn0.step)⟩
                  · rw [if_neg c23] at H
                    exact absurd H (by simp)
              · rw [if_neg c21] at H
                exact absurd H (by simp)
            · rw [if_neg c20] at H
              have c20b0 : (a0 == 8) = false := beq_eq_false_iff_ne.mpr c20
              have c20b1 : (a0 != 8) = true := bne_iff_ne.mpr c20
              by_cases c24 : a0 = 9
              · rw [if_pos c24] at H
                have c24b0 : (a0 == 9) = true := beq_iff_eq.mpr c24
                have c24b1 : (a0 != 9) = false := bne_eq_false_iff_eq.mpr c24
                clear c24
                by_cases c25 : 0 < (l1.length : Int)
                · rw [if_pos c25] at H
                  have c25b0 : decide (0 < (l1.length : Int)) = true := decide_eq_true c25
                  have c25b1 : decide (0 < l1.length) = true := decide_eq_true (by omega)
                  clear c25
                  by_cases c26 : 1 < (l1.length : Int)
                  · rw [if_pos c26] at H
                    have c26b0 : decide (1 < (l1.length : Int)) = true := decide_eq_true c26
                    have c26b1 : decide (1 < l1.length) = true := decide_eq_true (by omega)
                    clear c26
                    replace H := Option.bind_eq_some_iff.mp H
                    obtain ⟨t230, A270, H⟩ := H
                    replace H : (some (t230, false)) = some (r1, r2) := H
                    have A27 := Aside0.mk A270
                    clear A270
                    simp only [Option.some.injEq, Prod.mk.injEq] at H
                    obtain ⟨rfl, rfl⟩ := H
                    have p228 : 0 ≤ (0 : Int) := (by omega)
                    have q228 : 0 < (l1.length : Int) := of_decide_eq_true (by first | (with_reducible assumption) | assumption)
                    obtain ⟨ad228, e228, hx228_0⟩ := Kd.at_int HR1.out 0 p228 q228
                    cases e228
                    have qi228 : (0 < l1.length) = True := eq_true (by omega)
                    (try rw [show ((0 : Int)).toNat = 0 from rfl] at hx228_0)
                    (try rw [Addr.add_zero'] at hx228_0)
                    replace p228 := eq_true p228
                    replace q228 := eq_true q228
                    have p229 : 0 ≤ (1 : Int) := (by omega)
                    have q229 : 1 < (l1.length : Int) := of_decide_eq_true (by first | (with_reducible assumption) | assumption)
                    obtain ⟨ad229, e229, hx229_0⟩ := Kd.at_int HR1.out 1 p229 q229
                    obtain rfl : ad228 = ad229 := (by injection e229)
                    (try simp only [show (1 : Int).toNat = 1 from rfl, Nat.reduceMul, Nat.reduceEqDiff, Go.Addr.add, ↓reduceIte] at hx229_0)
                    have qi229 : (1 < l1.length) = True := eq_true (by omega)
                    (try rw [show ((1 : Int)).toNat = 1 from rfl] at hx229_0)
                    replace p229 := eq_true p229
                    replace q229 := eq_true q229
                    go_enter Try.func142, Try.ntmps142
                    go_wp2_with (first | (go_at_call 153; (with_reducible refine (impl_oneIf.calls ((rd l1 0) == (rd l1 1)) t230 _ A27.out).mono ?_); rintro e w' ⟨rfl, ⟨nd, rfl⟩⟩; (try first | exact ⟨rfl, _, World.drewN_drewN _ _ _⟩ | exact ⟨rfl, _, Eq.trans (World.drewN_drewN _ _ _) (congrArg (World.drewN _) (Nat.add_assoc _ _ _))⟩)))
                    repeat (go_quiet (first | (go_at_call 153; (with_reducible refine (impl_oneIf.calls ((rd l1 0) == (rd l1 1)) t230 _ A27.out).mono ?_); rintro e w' ⟨rfl, ⟨nd, rfl⟩⟩; (try first | exact ⟨rfl, _, World.drewN_drewN _ _ _⟩ | exact ⟨rfl, _, Eq.trans (World.drewN_drewN _ _ _) (congrArg (World.drewN _) (Nat.add_assoc _ _ _))⟩))); try go_wp2_with (first | (go_at_call 153; (with_reducible refine (impl_oneIf.calls ((rd l1 0) == (rd l1 1)) t230 _ A27.out).mono ?_); rintro e w' ⟨rfl, ⟨nd, rfl⟩⟩; (try first | exact ⟨rfl, _, World.drewN_drewN _ _ _⟩ | exact ⟨rfl, _, Eq.trans (World.drewN_drewN _ _ _) (congrArg (World.drewN _) (Nat.add_assoc _ _ _))⟩))))
                    go_ret2
                    exact ⟨by first | rfl | (simp; done) | (simp [*]; done), by repeat (first | exact Drawn0.refl _ | apply Drawn0.step)⟩
                  · rw [if_neg c26] at H
                    exact absurd H (by simp)
                · rw [if_neg c25] at H
                  exact absurd H (by simp)
              · rw [if_neg c24] at H
                have c24b0 : (a0 == 9) = false := beq_eq_false_iff_ne.mpr c24
                have c24b1 : (a0 != 9) = true := bne_iff_ne.mpr c24
                by_cases c28 : a0 = 10
                · rw [if_pos c28] at H
                  have c28b0 : (a0 == 10) = true := beq_iff_eq.mpr c28
                  have c28b1 : (a0 != 10) = false := bne_eq_false_iff_eq.mpr c28
                  clear c28
                  by_cases c29 : 0 < (l1.length : Int)
                  · rw [if_pos c29] at H
                    have c29b0 : decide (0 < (l1.length : Int)) = true := decide_eq_true c29
                    have c29b1 : decide (0 < l1.length) = true := decide_eq_true (by omega)
                    clear c29
                    by_cases c30 : 1 < (l1.length : Int)
                    · rw [if_pos c30] at H
                      have c30b0 : decide (1 < (l1.length : Int)) = true := decide_eq_true c30
                      have c30b1 : decide (1 < l1.length) = true := decide_eq_true (by omega)
                      clear c30
                      replace H := Option.bind_eq_some_iff.mp H
                      obtain ⟨t233, A310, H⟩ := H
                      replace H : (some (t233, false)) = some (r1, r2) := H
                      have A31 := Aside0.mk A310
                      clear A310
                      simp only [Option.some.injEq, Prod.mk.injEq] at H
                      obtain ⟨rfl, rfl⟩ := H
                      have p231 : 0 ≤ (0 : Int) := (by omega)
                      have q231 : 0 < (l1.length : Int) := of_decide_eq_true (by first | (with_reducible assumption) | assumption)
                      obtain ⟨ad231, e231, hx231_0⟩ := Kd.at_int HR1.out 0 p231 q231
                      cases e231
                      have qi231 : (0 < l1.length) = True := eq_true (by omega)
                      (try rw [show ((0 : Int)).toNat = 0 from rfl] at hx231_0)
                      (try rw [Addr.add_zero'] at hx231_0)
                      replace p231 := eq_true p231
                      replace q231 := eq_true q231
                      have p232 : 0 ≤ (1 : Int) := (by omega)
                      have q232 : 1 < (l1.length : Int) := of_decide_eq_true (by first | (with_reducible assumption) | assumption)
                      obtain ⟨ad232, e232, hx232_0⟩ := Kd.at_int HR1.out 1 p232 q232
                      obtain rfl : ad231 = ad232 := (by injection e232)
                      (try simp only [show (1 : Int).toNat = 1 from rfl, Nat.reduceMul, Nat.reduceEqDiff, Go.Addr.add, ↓reduceIte] at hx232_0)
                      have qi232 : (1 < l1.length) = True := eq_true (by omega)
                      (try rw [show ((1 : Int)).toNat = 1 from rfl] at hx232_0)
                      replace p232 := eq_true p232
                      replace q232 := eq_true q232
                      go_enter Try.func142, Try.ntmps142
                      go_wp2_with (first | (go_at_call 153; (with_reducible refine (impl_oneIf.calls (decide ((rd l1 0) < (rd l1 1))) t233 _ A31.out).mono ?_); rintro e w' ⟨rfl, ⟨nd, rfl⟩⟩; (try first | exact ⟨rfl, _, World.drewN_drewN _ _ _⟩ | exact ⟨rfl, _, Eq.trans (World.drewN_drewN _ _ _) (congrArg (World.drewN _) (Nat.add_assoc _ _ _))⟩)))
                      repeat (go_quiet (first | (go_at_call 153; (with_reducible refine (impl_oneIf.calls (decide ((rd l1 0) < (rd l1 1))) t233 _ A31.out).mono ?_); rintro e w' ⟨rfl, ⟨nd, rfl⟩⟩; (try first | exact ⟨rfl, _, World.drewN_drewN _ _ _⟩ | exact ⟨rfl, _, Eq.trans (World.drewN_drewN _ _ _) (congrArg (World.drewN _) (Nat.add_assoc _ _ _))⟩))); try go_wp2_with (first | (go_at_call 153; (with_reducible refine (impl_oneIf.calls (decide ((rd l1 0) < (rd l1 1))) t233 _ A31.out).mono ?_); rintro e w' ⟨rfl, ⟨nd, rfl⟩⟩; (try first | exact ⟨rfl, _, World.drewN_drewN _ _ _⟩ | exact ⟨rfl, _, Eq.trans (World.drewN_drewN _ _ _) (congrArg (World.drewN _) (Nat.add_assoc _ _ _))⟩))))
                      go_ret2
                      exact ⟨by first | rfl | (simp; done) | (simp [*]; done), by repeat (first | exact Drawn0.refl _ | apply Drawn0.step)⟩
                    · rw [if_neg c30] at H
                      exact absurd H (by simp)
                  · rw [if_neg c29] at H
                    exact absurd H (by simp)
                · rw [if_neg c28] at H
                  have c28b0 : (a0 == 10) = false := beq_eq_false_iff_ne.mpr c28
                  have c28b1 : (a0 != 10) = true := bne_iff_ne.mpr c28
                  by_cases c32 : 0 < (l1.length : Int)
                  · rw [if_pos c32] at H
                    have c32b0 : decide (0 < (l1.length : Int)) = true := decide_eq_true c32
                    have c32b1 : decide (0 < l1.length) = true := decide_eq_true (by omega)
                    clear c32
                    by_cases c33 : (rd l1 0) = 0
                    · rw [if_pos c33] at H
                      have c33b0 : ((rd l1 0) == 0) = true := beq_iff_eq.mpr c33
                      have c33b1 : ((rd l1 0) != 0) = false := bne_eq_false_iff_eq.mpr c33
                      clear c33
                      by_cases c34 : 2 < (l1.length : Int)
                      · rw [if_pos c34] at H
                        have c34b0 : decide (2 < (l1.length : Int)) = true := decide_eq_true c34
                        have c34b1 : decide (2 < l1.length) = true := decide_eq_true (by omega)
                        clear c34
                        simp only [Option.some.injEq, Prod.mk.injEq] at H
                        obtain ⟨rfl, rfl⟩ := H
                        have p234 : 0 ≤ (0 : Int) := (by omega)
                        have q234 : 0 < (l1.length : Int) := of_decide_eq_true (by first | (with_reducible assumption) | assumption)
                        obtain ⟨ad234, e234, hx234_0⟩ := Kd.at_int HR1.out 0 p234 q234
                        cases e234
                        have qi234 : (0 < l1.length) = True := eq_true (by omega)
                        (try rw [show ((0 : Int)).toNat = 0 from rfl] at hx234_0)
                        (try rw [Addr.add_zero'] at hx234_0)
                        replace p234 := eq_true p234
                        replace q234 := eq_true q234
                        have p235 : 0 ≤ (2 : Int) := (by omega)
                        have q235 : 2 < (l1.length : Int) := of_decide_eq_true (by first | (with_reducible assumption) | assumption)
                        obtain ⟨ad235, e235, hx235_0⟩ := Kd.at_int HR1.out 2 p235 q235
                        obtain rfl : ad234 = ad235 := (by injection e235)
                        (try simp only [show (2 : Int).toNat = 2 from rfl, Nat.reduceMul, Nat.reduceEqDiff, Go.Addr.add, ↓reduceIte] at hx235_0)
                        have qi235 : (2 < l1.length) = True := eq_true (by omega)
                        (try rw [show ((2 : Int)).toNat = 2 from rfl] at hx235_0)
                        replace p235 := eq_true p235
                        replace q235 := eq_true q235
                        go_enter Try.func142, Try.ntmps142
                        go_wp2
                        repeat (go_quiet (fail); try go_wp2)
                        go_ret2
                        exact ⟨by first | rfl | (simp; done) | (simp [*]; done), by repeat (first | exact Drawn0.refl _ | apply Drawn0.step)⟩
                      · rw [if_neg c34] at H
                        exact absurd H (by simp)
                    · rw [if_neg c33] at H
                      have c33b0 : ((rd l1 0) == 0) = false := beq_eq_false_iff_ne.mpr c33
                      have c33b1 : ((rd l1 0) != 0) = true := bne_iff_ne.mpr c33
                      by_cases c35 : 1 < (l1.length : Int)
                      · rw [if_pos c35] at H
                        have c35b0 : decide (1 < (l1.length : Int)) = true := decide_eq_true c35
                        have c35b1 : decide (1 < l1.length) = true := decide_eq_true (by omega)
                        clear c35
                        simp only [Option.some.injEq, Prod.mk.injEq] at H
                        obtain ⟨rfl, rfl⟩ := H
                        have p234 : 0 ≤ (0 : Int) := (by omega)
                        have q234 : 0 < (l1.length : Int) := of_decide_eq_true (by first | (with_reducible assumption) | assumption)
                        obtain ⟨ad234, e234, hx234_0⟩ := Kd.at_int HR1.out 0 p234 q234
                        cases e234
                        have qi234 : (0 < l1.length) = True := eq_true (by omega)
                        (try rw [show ((0 : Int)).toNat = 0 from rfl] at hx234_0)
                        (try rw [Addr.add_zero'] at hx234_0)
                        replace p234 := eq_true p234
                        replace q234 := eq_true q234
                        have p236 : 0 ≤ (1 : Int) := (by omega)
                        have q236 : 1 < (l1.length : Int) := of_decide_eq_true (by first | (with_reducible assumption) | assumption)
                        obtain ⟨ad236, e236, hx236_0⟩ := Kd.at_int HR1.out 1 p236 q236
                        obtain rfl : ad234 = ad236 := (by injection e236)
                        (try simp only [show (1 : Int).toNat = 1 from rfl, Nat.reduceMul, Nat.reduceEqDiff, Go.Addr.add, ↓reduceIte] at hx236_0)
                        have qi236 : (1 < l1.length) = True := eq_true (by omega)
                        (try rw [show ((1 : Int)).toNat = 1 from rfl] at hx236_0)
                        replace p236 := eq_true p236
                        replace q236 := eq_true q236
                        go_enter Try.func142, Try.ntmps142
                        go_wp2
                        repeat (go_quiet (fail); try go_wp2)
                        go_ret2
                        exact ⟨by first | rfl | (simp; done) | (simp [*]; done), by repeat (first | exact Drawn0.refl _ | apply Drawn0.step)⟩
                      · rw [if_neg c35] at H
                        exact absurd H (by simp)
                  · rw [if_neg c32] at H
                    exact absurd H (by simp)

/-! ### (*impl.tree).eval: function 113, by hand -/
theorem doOp_some (a : Int) (l : List Int) (n : Int) (hn : (l.length : Int) = n) (h : (a = 3 ∧ n = 1) ∨ (a = 11 ∧ n = 3) ∨ (4 ≤ a ∧ a ≤ 10 ∧ n = 2)) : ∃ p, impl_doOp.f a l = some p := by
  rcases h with ⟨rfl, rfl⟩ | ⟨rfl, rfl⟩ | ⟨h4, h10, rfl⟩
  · unfold impl_doOp.f
    rw [if_pos rfl, if_pos (by omega)]; exact ⟨_, rfl⟩
  · unfold impl_doOp.f
    simp only [if_neg (show ¬ (11 : Int) = 3 by omega), if_neg (show ¬ (11 : Int) = 4 by omega), if_neg (show ¬ (11 : Int) = 5 by omega), if_neg (show ¬ (11 : Int) = 6 by omega), if_neg (show ¬ (11 : Int) = 7 by omega), if_neg (show ¬ (11 : Int) = 8 by omega), if_neg (show ¬ (11 : Int) = 9 by omega), if_neg (show ¬ (11 : Int) = 10 by omega)]
    rw [if_pos (by omega)]
    split
    · rw [if_pos (by omega)]; exact ⟨_, rfl⟩
    · rw [if_pos (by omega)]; exact ⟨_, rfl⟩
  · have c0 : 0 < (l.length : Int) := by omega
    have c1 : 1 < (l.length : Int) := by omega
    have : a = 4 ∨ a = 5 ∨ a = 6 ∨ a = 7 ∨ a = 8 ∨ a = 9 ∨ a = 10 := by omega
    unfold impl_doOp.f impl_oneIf.f
    simp only [if_pos c0, if_pos c1]
    have t0 : 0 ≤ Int.tmod (IntKind.u64.wrap (rd l 1)) 64 := by
      have : 0 ≤ IntKind.u64.wrap (rd l 1) := by simp [IntKind.wrap, IntKind.bits, IntKind.signed]; omega
      exact Int.tmod_nonneg _ this
    rw [if_pos t0]
    rcases this with rfl | rfl | rfl | rfl | rfl | rfl | rfl
    · exact ⟨_, rfl⟩
    · exact ⟨_, rfl⟩
    · exact ⟨_, rfl⟩
    · exact ⟨_, rfl⟩
    · simp only [if_neg (show ¬ (8 : Int) = 3 by omega), if_neg (show ¬ (8 : Int) = 4 by omega), if_neg (show ¬ (8 : Int) = 5 by omega), if_neg (show ¬ (8 : Int) = 6 by omega), if_neg (show ¬ (8 : Int) = 7 by omega), if_pos]
      split <;> exact ⟨_, rfl⟩
    · simp only [if_neg (show ¬ (9 : Int) = 3 by omega), if_neg (show ¬ (9 : Int) = 4 by omega), if_neg (show ¬ (9 : Int) = 5 by omega), if_neg (show ¬ (9 : Int) = 6 by omega), if_neg (show ¬ (9 : Int) = 7 by omega), if_neg (show ¬ (9 : Int) = 8 by omega), if_pos]
      split <;> exact ⟨_, rfl⟩
    · simp only [if_neg (show ¬ (10 : Int) = 3 by omega), if_neg (show ¬ (10 : Int) = 4 by omega), if_neg (show ¬ (10 : Int) = 5 by omega), if_neg (show ¬ (10 : Int) = 6 by omega), if_neg (show ¬ (10 : Int) = 7 by omega), if_neg (show ¬ (10 : Int) = 8 by omega), if_neg (show ¬ (10 : Int) = 9 by omega), if_pos]
      split <;> exact ⟨_, rfl⟩
/-- What eval says of a tree. -/
def EvalSays (d : Nat) : Prop := ∀ (T : Tree.Tr) (a : Addr) (ok : Nat → Prop) (E : Option Addr) (c : Nat) (env : List Int) (w : World), Tree.TreeAt w ok d T a → Tree.Good T → Kd.C (Kd.int .i64) w E env.length env → env.length = 4 → env.length ≤ c →
    Calls Try.prog 113 #[.pointer (some a), .slice E env.length c] w fun e w' => e = .returned (.tuple #[.int .i64 (T.ev impl_doOp.f env).1, .bool (T.ev impl_doOp.f env).2]) ∧ Below w.heap.size w w'
set_option maxHeartbeats 8000000 in
set_option maxRecDepth 100000 in
theorem eval_num {d : Nat} (T : Tree.Tr) (a : Addr) (ok : Nat → Prop) (E : Option Addr) (c : Nat) (env : List Int) (w : World) (h : Tree.TreeAt w ok (d + 1) T a) (e : T.op = 1) :
    Calls Try.prog 113 #[.pointer (some a), .slice E env.length c] w fun e w' => e = .returned (.tuple #[.int .i64 (T.ev impl_doOp.f env).1, .bool (T.ev impl_doOp.f env).2]) ∧ Below w.heap.size w w' := by
  obtain ⟨g, A, cc, az, rfl, h1, h2, -⟩ := h
  have hres : T.ev impl_doOp.f env = (T.n, false) := by rw [Tree.ev_eq, e]; rfl
  rw [hres]
  rw [e] at h1
  clear e hres
  go_enter Try.func113, Try.ntmps113
  go_wp2
  go_ret2
  exact ⟨rfl, Below.refl _ _⟩
set_option maxHeartbeats 8000000 in
set_option maxRecDepth 100000 in
theorem eval_var {d : Nat} (T : Tree.Tr) (a : Addr) (ok : Nat → Prop) (E : Option Addr) (c : Nat) (env : List Int) (w : World) (h : Tree.TreeAt w ok (d + 1) T a) (hg : Tree.Good T) (hE : Kd.C (Kd.int .i64) w E env.length env) (h4 : env.length = 4) (hc : env.length ≤ c) (e : T.op = 2) :
    Calls Try.prog 113 #[.pointer (some a), .slice E env.length c] w fun e w' => e = .returned (.tuple #[.int .i64 (T.ev impl_doOp.f env).1, .bool (T.ev impl_doOp.f env).2]) ∧ Below w.heap.size w w' := by
  obtain ⟨g, A, cc, az, rfl, h1, h2, -⟩ := h
  have hres : T.ev impl_doOp.f env = (rd env T.n, false) := by rw [Tree.ev_eq, e]; rfl
  rw [hres]
  have hn := hg.num
  rw [e] at hn h1
  have hn : 0 ≤ T.n ∧ T.n < 4 := by
    unfold Tree.numOK at hn
    rw [if_neg (by omega), if_pos rfl] at hn
    exact of_decide_eq_true hn
  obtain ⟨p1, p2⟩ := hn
  have p3 : T.n < (env.length : Int) := by omega
  obtain ⟨ad, e1, hx⟩ := Kd.at_int hE T.n p1 p3
  cases e1
  generalize rd env T.n = y at hx
  generalize T.n = n at p1 p3 h2 hx
  replace p1 := eq_true p1
  replace p3 := eq_true p3
  clear e hres p2 h4 hc hE hg
  go_enter Try.func113, Try.ntmps113
  go_wp2
  go_ret2
  exact ⟨rfl, Below.refl _ _⟩
set_option maxHeartbeats 8000000 in
set_option maxRecDepth 100000 in
theorem eval_if {d : Nat} (ih : EvalSays d) (T : Tree.Tr) (a : Addr) (ok : Nat → Prop) (E : Option Addr) (c : Nat) (env : List Int) (w : World) (h : Tree.TreeAt w ok (d + 1) T a) (hg : Tree.Good T) (hE : Kd.C (Kd.int .i64) w E env.length env) (h4 : env.length = 4) (hc : env.length ≤ c) (e : T.op = 11) :
    Calls Try.prog 113 #[.pointer (some a), .slice E env.length c] w fun e w' => e = .returned (.tuple #[.int .i64 (T.ev impl_doOp.f env).1, .bool (T.ev impl_doOp.f env).2]) ∧ Below w.heap.size w w' := by
  obtain ⟨g, A, cc, az, rfl, h1, h2, h3, h5, h6, h7, h8, -⟩ := h
  have har := hg.arity
  rw [e] at har h1
  have hl : T.kids.length = 3 := by have : Tree.arity 11 = 3 := rfl; omega
  match hk : T.kids, hl with
  | [K0, K1, K2], _ =>
    have hres : T.ev impl_doOp.f env = if (K0.ev impl_doOp.f env).2 = true then (0, true) else if (K0.ev impl_doOp.f env).1 = 0 then K2.ev impl_doOp.f env else K1.ev impl_doOp.f env := by rw [Tree.ev_eq, e, hk]; rfl
    rw [hres]
    rw [hk] at h3 h5 h6 h7
    have hk' := hk
    obtain ⟨ad, e0, x0⟩ := Tree.ptr_at h7 0 (by simp)
    cases e0
    obtain ⟨ad', e1, x1⟩ := Tree.ptr_at h7 1 (by simp)
    cases e1
    obtain ⟨ad', e2, x2⟩ := Tree.ptr_at h7 2 (by simp)
    cases e2
    have t0 := h8 0 (by rw [hk]; simp)
    have t1 := h8 1 (by rw [hk]; simp)
    have t2 := h8 2 (by rw [hk]; simp)
    have g0 : Tree.Good K0 := hg.kids K0 (by rw [hk]; simp)
    have g1 : Tree.Good K1 := hg.kids K1 (by rw [hk]; simp)
    have g2 : Tree.Good K2 := hg.kids K2 (by rw [hk]; simp)
    simp only [hk, List.getElem_cons_zero, List.getElem_cons_succ] at t0 t1 t2
    rw [Tree.add_zero] at x0
    rw [Tree.add_lit ad 1 (by omega)] at x1
    rw [Tree.add_lit ad 2 (by omega)] at x2
    generalize az.getD 0 Tree.nowhere = a0 at x0 t0
    generalize az.getD 1 Tree.nowhere = a1 at x1 t1
    generalize az.getD 2 Tree.nowhere = a2 at x2 t2
    have c0 := Aside0.mk (ih K0 a0 ok E c env w t0 g0 hE h4 hc)
    have c1 : Aside0 (∀ W, Below w.heap.size w W → Calls Try.prog 113 #[.pointer (some a1), .slice E env.length c] W fun e w' => e = .returned (.tuple #[.int .i64 (K1.ev impl_doOp.f env).1, .bool (K1.ev impl_doOp.f env).2]) ∧ Below w.heap.size w w') :=
      ⟨fun W hW => (ih K1 a1 ok E c env W (t1.below hW) g1 (Kd.C_below hE hW) h4 hc).mono fun e w' ⟨h, k⟩ => ⟨h, below_step hW k⟩⟩
    have c2 : Aside0 (∀ W, Below w.heap.size w W → Calls Try.prog 113 #[.pointer (some a2), .slice E env.length c] W fun e w' => e = .returned (.tuple #[.int .i64 (K2.ev impl_doOp.f env).1, .bool (K2.ev impl_doOp.f env).2]) ∧ Below w.heap.size w w') :=
      ⟨fun W hW => (ih K2 a2 ok E c env W (t2.below hW) g2 (Kd.C_below hE hW) h4 hc).mono fun e w' ⟨h, k⟩ => ⟨h, below_step hW k⟩⟩
    generalize K0.ev impl_doOp.f env = r0 at c0 ⊢
    generalize K1.ev impl_doOp.f env = r1 at c1 ⊢
    generalize K2.ev impl_doOp.f env = r2 at c2 ⊢
    obtain ⟨n0, b0⟩ := r0
    clear t0 t1 t2 g0 g1 g2 hk hk' h8 h7 h6 h5 hres har hg hE ih e h4 hc hl
    simp only at c0 ⊢
    have hlen : ([K0, K1, K2] : List Tree.Tr).length = 3 := rfl
    rw [hlen] at h3
    clear hlen
    have X0 := Aside0.mk x0
    have X1 := Aside0.mk x1
    have X2 := Aside0.mk x2
    have X3 := Aside0.mk h3
    cases b0 with
    | true =>
      rw [if_pos rfl]
      go_enter Try.func113, Try.ntmps113
      go_wp2_with (go_at_call 113; refine c0.out.mono ?_; rintro e w1 ⟨rfl, hb⟩; have HB := Aside0.mk hb; clear hb)
      go_ret2
      exact ⟨rfl, HB.out⟩
    | false =>
      rw [if_neg (by simp)]
      by_cases hz : n0 = 0
      · rw [if_pos hz]
        have z1 : (n0 != 0) = false := by simp [hz]
        have z2 : (n0 == 0) = true := by simp [hz]
        clear hz
        go_enter Try.func113, Try.ntmps113
        go_wp2_with (first | (go_at_call 113; (with_reducible refine c0.out.mono ?_); rintro e w1 ⟨rfl, hb⟩; have HB := Aside0.mk hb; have y0 := pw_cell_below hb X3.out; have y1 := pw_cell_below hb X2.out; clear hb) | (go_at_call 113; (with_reducible refine (c2.out _ HB.out).mono ?_); rintro e w2 ⟨rfl, hb⟩; have HB2 := Aside0.mk hb; clear hb))
        go_ret2
        exact ⟨rfl, HB2.out⟩
      · rw [if_neg hz]
        have z1 : (n0 != 0) = true := by simp [hz]
        have z2 : (n0 == 0) = false := by simp [hz]
        clear hz
        go_enter Try.func113, Try.ntmps113
        go_wp2_with (first | (go_at_call 113; (with_reducible refine c0.out.mono ?_); rintro e w1 ⟨rfl, hb⟩; have HB := Aside0.mk hb; have y0 := pw_cell_below hb X3.out; have y1 := pw_cell_below hb X1.out; clear hb) | (go_at_call 113; (with_reducible refine (c1.out _ HB.out).mono ?_); rintro e w2 ⟨rfl, hb⟩; have HB2 := Aside0.mk hb; clear hb))
        go_ret2
        exact ⟨rfl, HB2.out⟩
theorem cur_set (vals : List Int) (i : Nat) (h : i < vals.length) : (vals.take i ++ List.replicate (vals.length - i) 0).set i (vals.getD i 0) = vals.take (i + 1) ++ List.replicate (vals.length - (i + 1)) 0 := by
  have hl : (vals.take i).length = i := by rw [List.length_take]; omega
  rw [List.set_append_right _ _ (by omega), hl, Nat.sub_self]
  obtain ⟨m, hm⟩ : ∃ m, vals.length - i = m + 1 := ⟨vals.length - i - 1, by omega⟩
  rw [hm, show vals.length - (i + 1) = m by omega, List.replicate_succ, List.set_cons_zero, List.take_succ_eq_append_getElem h, List.append_assoc]
  rw [List.getD_eq_getElem?_getD, List.getElem?_eq_getElem h]
  rfl
theorem cur_len (vals : List Int) (i : Nat) (h : i ≤ vals.length) : (vals.take i ++ List.replicate (vals.length - i) 0).length = vals.length := by
  rw [List.length_append, List.length_take, List.length_replicate]; omega
set_option maxHeartbeats 8000000 in
set_option maxRecDepth 100000 in
theorem eval_gen {d : Nat} (ih : EvalSays d) (T : Tree.Tr) (a : Addr) (ok : Nat → Prop) (E : Option Addr) (c : Nat) (env : List Int) (w : World) (h : Tree.TreeAt w ok (d + 1) T a) (hg : Tree.Good T) (hE : Kd.C (Kd.int .i64) w E env.length env) (h4 : env.length = 4) (hc : env.length ≤ c) (e1 : 3 ≤ T.op) (e2 : T.op ≤ 10) :
    Calls Try.prog 113 #[.pointer (some a), .slice E env.length c] w fun e w' => e = .returned (.tuple #[.int .i64 (T.ev impl_doOp.f env).1, .bool (T.ev impl_doOp.f env).2]) ∧ Below w.heap.size w w' := by
  obtain ⟨g, A, cc, az, rfl, h1, h2, h3, h5, h6, h7, h8, -⟩ := h
  have har := hg.arity
  have hl : (T.op = 3 ∧ (T.kids.length : Int) = 1) ∨ (T.op = 11 ∧ (T.kids.length : Int) = 3) ∨ (4 ≤ T.op ∧ T.op ≤ 10 ∧ (T.kids.length : Int) = 2) := by
    by_cases e3 : T.op = 3
    · rw [e3] at har; exact .inl ⟨e3, by rw [har]; rfl⟩
    · refine .inr (.inr ⟨by omega, e2, ?_⟩)
      rw [har]
      unfold Tree.arity
      rw [if_neg (by omega), if_neg e3, if_neg (by omega)]
  obtain ⟨rs, hrs⟩ : ∃ rs, rs = T.kids.map fun k => k.ev impl_doOp.f env := ⟨_, rfl⟩
  obtain ⟨vals, hvals⟩ : ∃ vals, vals = rs.map (·.1) := ⟨_, rfl⟩
  have hvl : vals.length = T.kids.length := by rw [hvals, hrs, List.length_map, List.length_map]
  obtain ⟨p, hp⟩ := doOp_some T.op vals (T.kids.length : Int) (by rw [hvl]) hl
  have hres : T.ev impl_doOp.f env = if rs.any (·.2) = true then (0, true) else p := by
    rw [Tree.ev_eq, ← hrs]
    unfold Tree.comb
    rw [if_neg (by omega), if_neg (by omega), if_neg (by omega), ← hvals, hp]
    rfl
  have hcont : ∀ i (hi : i < T.kids.length), vals.getD i 0 = (T.kids[i].ev impl_doOp.f env).1 ∧ (rs.any (·.2) = false → (T.kids[i].ev impl_doOp.f env).2 = false) ∧ ((T.kids[i].ev impl_doOp.f env).2 = true → rs.any (·.2) = true) := by
    intro i hi
    have hm : (T.kids[i].ev impl_doOp.f env) ∈ rs := by rw [hrs]; exact List.mem_map.2 ⟨_, List.getElem_mem hi, rfl⟩
    refine ⟨?_, fun h => ?_, fun h => List.any_eq_true.2 ⟨_, hm, h⟩⟩
    · rw [hvals, hrs, List.getD_eq_getElem?_getD, List.getElem?_map, List.getElem?_map, List.getElem?_eq_getElem hi]; rfl
    · have := List.any_eq_false.1 h _ hm
      simpa using this
  have hnone : (∀ i, i < T.kids.length → ((T.kids.getD i (.mk 0 0 [])).ev impl_doOp.f env).2 = false) → rs.any (·.2) = false := by
    intro h
    rw [List.any_eq_false]
    intro x hx
    rw [hrs] at hx
    obtain ⟨K, hK, rfl⟩ := List.mem_map.1 hx
    obtain ⟨i, hi, rfl⟩ := List.getElem_of_mem hK
    have := h i hi
    rw [List.getD_eq_getElem?_getD, List.getElem?_eq_getElem hi] at this
    simpa using this
  have HRES0 := hres
  generalize T.ev impl_doOp.f env = r at HRES0 ⊢
  obtain ⟨r1, r2⟩ := r
  have hdo : Aside0 (∀ (W : World) (B co : Nat), T.kids.length ≤ co → Kd.C (Kd.int .i64) W (some ⟨B, 0, none⟩) T.kids.length vals → Calls Try.prog 142 #[.int .i64 T.op, .slice (some ⟨B, 0, none⟩) T.kids.length co] W fun e w' => e = .returned (.tuple #[.int .i64 p.1, .bool p.2]) ∧ Drawn0 W w') := by
    refine ⟨fun W B co hco hC => ?_⟩
    rw [← hvl] at hC hco ⊢
    exact impl_doOp.calls T.op _ co vals p.1 p.2 W hC hco hp
  have HRES := Aside0.mk HRES0
  clear HRES0
  have HCONT := Aside0.mk hcont
  have HNONE := Aside0.mk hnone
  have HVL := Aside0.mk hvl
  have HIH : Aside0 (∀ i (hi : i < T.kids.length) (W : World), Below w.heap.size w W → Calls Try.prog 113 #[.pointer (some (az.getD i Tree.nowhere)), .slice E env.length c] W fun e w' => e = .returned (.tuple #[.int .i64 (T.kids[i].ev impl_doOp.f env).1, .bool (T.kids[i].ev impl_doOp.f env).2]) ∧ Below W.heap.size W w') :=
    ⟨fun i hi W hW => ih T.kids[i] (az.getD i Tree.nowhere) ok E c env W ((h8 i hi).below hW) (hg.kids _ (List.getElem_mem hi)) (Kd.C_below hE hW) h4 hc⟩
  have H7 := Aside0.mk h7
  have HLN : Aside0 (1 ≤ T.kids.length ∧ T.kids.length ≤ 3) := ⟨by omega⟩
  have g1 : (T.op == 1) = false := by rw [beq_eq_false_iff_ne]; omega
  have g2 : (T.op == 2) = false := by rw [beq_eq_false_iff_ne]; omega
  have g11 : (T.op == 11) = false := by rw [beq_eq_false_iff_ne]; omega
  clear hres hcont hnone hvl ih h8 h7 h6 h5 hp hl har hrs hvals h4 hc e1 e2 hE hg
  have HB := Aside0.mk (Below.refl w.heap.size w)
  have c2b0 : (0 ≤ (T.kids.length : Int)) = True := eq_true (by omega)
  have X3 := Aside0.mk h3
  have X1 := Aside0.mk h1
  have HRL : Aside0 (List.replicate (T.kids.length : Int).toNat (0 : Int) = vals.take 0 ++ List.replicate (vals.length - 0) 0) := ⟨by rw [HVL.out]; simp⟩
  have HCL : Aside0 ((vals.take 0 ++ List.replicate (vals.length - 0) 0).length = T.kids.length) := ⟨by rw [HVL.out]; simp⟩
  go_enter Try.func113, Try.ntmps113
  go_wp2_with (first | ((with_reducible refine gate_dst (N := 75) rfl ?_); refine Kd.R_make (Kd.int .i64) _ 2 rfl (N := 75) rfl 60 _ _ rfl (T.kids.length : Int) rfl rfl Try.underlying60 (.int .i64 0) 8 info2 rfl (by decide) (by omega) 0 (ok := fun _ => True) (okp := fun _ => True) rfl (fun _ hk => hk) trivial (by omega) (by have := HLN.out; omega) (Below.refl _ _) (Nat.le_refl _) ?_; intro v75 w4 ho5 hb hg_ hnew_; clear hg_ hnew_; have y3 := pw_cell_below hb X3.out; have y1 := pw_cell_below hb X1.out; rw [HRL.out] at ho5; obtain ⟨go, co, rfl, gb, -, -⟩ := Kd.R_form ho5 (by rw [HCL.out]; have := HLN.out; omega); rw [HCL.out] at ho5 ⊢; have HO := Aside0.mk ho5; have HB4 := Aside0.mk hb; have HCO := Aside0.mk (Kd.R_reads' ho5).2.1; have GB := Aside0.mk gb; clear hb ho5 gb))
  go_loopg [81] T.kids.length (fun gg v81 wr => ∃ i : Nat, v81 = .int .i64 (i : Int) ∧ Aside0 (i ≤ T.kids.length ∧ T.kids.length - i ≤ gg ∧ ∀ j, j < i → ((T.kids.getD j (.mk 0 0 [])).ev impl_doOp.f env).2 = false) ∧ Aside0 (Kd.R (Kd.int .i64) 2 wr w.heap.size (fun _ => True) (.slice (some ⟨go, 0, none⟩) T.kids.length co) (vals.take i ++ List.replicate (vals.length - i) 0)) ∧ Aside0 (Below w.heap.size w wr))
  case atStart => exact ⟨0, rfl, ⟨Nat.zero_le _, Nat.le_refl _, fun j hj => absurd hj (Nat.not_lt_zero _)⟩, HO, HB4⟩
  case round =>
    clear y3 y1
    obtain ⟨i, rfl, A1, HO, HB⟩ := hrel
    by_cases c2 : i < T.kids.length
    · obtain ⟨ad, e0, hx⟩ := Tree.ptr_at H7.out i c2
      cases e0
      have hx := pw_cell_below HB.out hx
      have y3 := pw_cell_below HB.out X3.out
      have hsub := HIH.out i c2 wr HB.out
      obtain ⟨k1, k2, k3⟩ := HCONT.out i c2
      have hKD : T.kids.getD i (.mk 0 0 []) = T.kids[i] := by rw [List.getD_eq_getElem?_getD, List.getElem?_eq_getElem c2]; rfl
      have hcs := cur_set vals i (by rw [HVL.out]; exact c2)
      have hclen := cur_len vals i (by rw [HVL.out]; omega)
      rw [HVL.out] at hclen
      rw [k1] at hcs
      generalize az.getD i Tree.nowhere = ai at hx hsub
      generalize hK : T.kids[i].ev impl_doOp.f env = rk at hsub k2 k3 hcs
      rw [← hKD] at hK
      obtain ⟨n, b⟩ := rk
      simp only at hcs hsub k2 k3
      have c2t : ((i : Int) < (T.kids.length : Int)) = True := eq_true (by omega)
      have C2 := Aside0.mk c2
      have HKE := Aside0.mk hK
      have HCS := Aside0.mk hcs
      have HCLN := Aside0.mk hclen
      clear c2 k1 k2 hKD hK hcs hclen
      cases b with
      | true =>
        have HANY := Aside0.mk (k3 rfl)
        clear k3
        go_wp2_with (go_at_call 113; (with_reducible refine hsub.mono ?_); rintro e w1 ⟨rfl, hb⟩; have HB1 := Aside0.mk hb; clear hb)
        go_ret2
        have hr := HRES.out
        rw [if_pos HANY.out] at hr
        injection hr with hr1 hr2
        exact ⟨by rw [hr1, hr2]; rfl, below_step HB.out HB1.out⟩
      | false =>
        clear k3
        have p9 : 0 ≤ (i : Int) := by omega
        have q9 : (i : Int) < (T.kids.length : Int) := by have := C2.out; omega
        have P9 := Aside0.mk p9
        have Q9 := Aside0.mk q9
        replace p9 := eq_true p9
        clear q9
        go_wp2_with (first | (go_at_call 113; (with_reducible refine hsub.mono ?_); rintro e w1 ⟨rfl, hb⟩; have HB1 := Aside0.mk hb; have HO1 := Aside0.mk (Kd.R_below HO.out hb); obtain ⟨hx9, hf9⟩ := Kd.R_celln 0 (Kd.R_below HO.out hb) (i : Int) P9.out Q9.out; have HP := Aside0.mk (Kd.R_putg (Kd.R_below HO.out hb) (i : Int) n); rw [Int.toNat_natCast] at hx9 hf9; clear hb) | ((with_reducible refine gate_store (t := 2) (p := 96) rfl ?_); refine store_event (t := 2) (p := 96) (v := ?vo_w11) (w1 := (w1.setCell ⟨go, i, none⟩ (.int .i64 n))) ?hg ?ho ?hn ?hr ?_; (case ho => rfl); (case hg => rfl); (case hn => rfl); (case hr => first | (go_simp; done) | (go_simp; rfl)); intro w2 hw; have HP2 := HP.out; rw [Int.toNat_natCast, ← hw, HCS.out] at HP2; have HB2 := Aside0.mk ((by rw [hw]; exact below_set (below_step HB.out HB1.out) GB.out : Below w.heap.size w w2)); have HO2 := Aside0.mk HP2.1; clear hw HP2))
        go_roundg (T.kids.length - (i + 1))
        case measure => have := A1.out; have := C2.out; omega
        case rel =>
          refine ⟨i + 1, ?_, ⟨C2.out, Nat.le_refl _, fun j h => ?_⟩, HO2, HB2⟩
          · congr 1; have := HLN.out; have := C2.out; unfold wrap64; omega
          · by_cases e : j = i
            · subst e; rw [HKE.out]
            · exact A1.out.2.2 j (by omega)
    · have hi : i = T.kids.length := by have := A1.out; omega
      have hall := HNONE.out (fun j hj => A1.out.2.2 j (by omega))
      have y1 := pw_cell_below HB.out X1.out
      have hC := (Kd.R_reads' HO.out).2.2
      have hcur : vals.take i ++ List.replicate (vals.length - i) 0 = vals := by rw [HVL.out, hi, Nat.sub_self, List.take_of_length_le (by rw [HVL.out]; exact Nat.le_refl _)]; simp
      rw [hcur, HVL.out] at hC
      have hcall := hdo.out wr go co HCO.out hC
      have c2t : ((i : Int) < (T.kids.length : Int)) = False := eq_false (by omega)
      have HALL := Aside0.mk hall
      clear hi hall hC hcur c2
      go_wp2_with (go_at_call 142; (with_reducible refine hcall.mono ?_); rintro e w1 ⟨rfl, ⟨q, rfl⟩⟩)
      go_ret2
      have hr := HRES.out
      rw [if_neg (by rw [HALL.out]; simp)] at hr
      rw [← hr]
      exact ⟨rfl, pw_below_drewN HB.out q⟩
theorem tree_eval.calls (d : Nat) : EvalSays d := by
  induction d with
  | zero => intro T a ok E c env w h; exact h.elim
  | succ d ih =>
    intro T a ok E c env w h hg hE h4 hc
    have hop := Tree.numOK_op hg.num
    by_cases e1 : T.op = 1
    · exact eval_num T a ok E c env w h e1
    · by_cases e2 : T.op = 2
      · exact eval_var T a ok E c env w h hg hE h4 hc e2
      · by_cases e3 : T.op = 11
        · exact eval_if ih T a ok E c env w h hg hE h4 hc e3
        · exact eval_gen ih T a ok E c env w h hg hE h4 hc (by omega) (by omega)

end Go.Proofs.Ytlneknaiimmfmaa.PFnExactHoldsAt
