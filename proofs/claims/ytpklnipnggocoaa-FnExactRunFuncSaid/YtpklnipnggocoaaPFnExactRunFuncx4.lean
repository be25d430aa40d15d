/- Functions of the program and of the reference as plain Lean functions, and what their calls come to; partly printed by a program, partly by hand; no condition beyond what each theorem says. -/
import Derived.Test.YtpklnipnggocoaaPFnExactRunFuncx0
import Derived.Test.YtpklnipnggocoaaPFnExactRunFuncx1
namespace Go.Proofs.Ytpklnipnggocoaa.PFnExactRunFunc
open Go.RowKit Go.Proofs.YtpklnipnggocoaaW.PrintWords Go.Proofs.YtpklnipnggocoaaW.PrintLast Go.Proofs.YtpklnipnggocoaaW.PrintMore
attribute [local go_sem] max2_int min2_int max_two min_two max_three min_three max_four min_four
set_option linter.unusedVariables false
set_option linter.unusedSimpArgs false
set_option maxHeartbeats 8000000
set_option maxRecDepth 100000

-- NOT PRINTED: function 88 (impl_Inst_88)

-- NOT PRINTED: function 70 (impl_Inst_70)

-- NOT PRINTED: function 90 (impl_Jump_90)

-- NOT PRINTED: function 73 (impl_Jump_73)

set_option maxHeartbeats 2000000 in
theorem IndexFunc_int (A0 : Option Addr) (c0 : Nat) (l0 : List Int) (g : Nat) (lb : Array Value) (p : Int → Bool) (w : World) (hr0 : Kd.C (Kd.int .i64) w A0 l0.length l0) (hc0 : l0.length ≤ c0)
  (eg : ∀ args w, (callFunc g args).run Try.prog w = .ok (.enter g args) w)
  (hp : ∀ (W : World) (x : Int), x ∈ l0 → Drawn0 w W → Calls Try.prog g (#[.int .i64 x] ++ lb) W fun e w' => e = .returned (.bool (p x)) ∧ Drawn0 W w') :
  Calls Try.prog 102 #[.slice A0 l0.length c0, .func (.func g) #[] lb] w fun e w' => e = .returned (.int .i64 (Gen.idxP p l0)) ∧ Drawn0 w w' := by
 (have HR0 := Aside0.mk hr0); (have HC0 := Aside0.mk hc0); (have HP := Aside0.mk hp); clear hr0 hc0 hp; (have hlen : l0.length ≤ 9223372036854775807 := HR0.out.2.1); (have HLN := Aside0.mk hlen); clear hlen; (go_enter Try.func102, Try.ntmps102); (go_wp2)
 go_loopg [5, 8] l0.length (fun gg _ s8 wr => ∃ x : Int, s8 = .int .i64 x ∧ Aside0 (0 ≤ x ∧ x ≤ (l0.length : Int) ∧ l0.length - x.toNat ≤ gg ∧ ∀ j, j < x.toNat → p (l0.getD j 0) = false) ∧ Drawn0 w wr)
 case atStart => exact ⟨0, rfl, ⟨⟨by omega, by omega, by omega, fun j hj => absurd hj (Nat.not_lt_zero _)⟩⟩, by repeat (first | exact Drawn0.refl _ | apply Drawn0.step)⟩
 case round =>
  (obtain ⟨x, rfl, A, ⟨q, rfl⟩⟩ := hrel); (by_cases c2 : x < (l0.length : Int))
  ·have h0 := A.out.1
   (have hx : x.toNat < l0.length := by omega); (obtain ⟨ad, ead, hcell⟩ := Kd.at_int HR0.out x h0 c2); (cases ead); (have hmem : rd l0 x ∈ l0 := by simp [rd, List.getD_eq_getElem?_getD, hx]); (have HX := Aside0.mk hx); clear hx; (have hcall := HP.out (w.drewN q) _ hmem ⟨q, rfl⟩); clear hmem; (have c2b0 := decide_eq_true c2); (have h0b : decide (0 ≤ x) = true := decide_eq_true h0); (have C2 := Aside0.mk c2); clear c2; (have c2t := eq_true C2.out); (replace h0 := eq_true h0)
   cases hq : p (rd l0 x) with
   | true =>
    (rw [hq] at hcall); (have HQ := Aside0.mk hq); clear hq; (go_wp2_with (go_at_fn g; refine hcall.mono ?_; rintro e w' ⟨rfl, ⟨q', rfl⟩⟩)); (go_ret); (refine ⟨?_, by repeat (first | exact Drawn0.refl _ | apply Drawn0.step)⟩); (rw [Gen.idxP_hitD p l0 0 x.toNat HX.out A.out.2.2.2 HQ.out]); (rw [Int.toNat_of_nonneg A.out.1]); (rfl)
   | false =>
    (rw [hq] at hcall); (have HQ := Aside0.mk hq); clear hq; (go_wp2_with (go_at_fn g; refine hcall.mono ?_; rintro e w' ⟨rfl, ⟨q', rfl⟩⟩)); (go_roundg (l0.length - (x.toNat + 1)))
    case measure => have := A.out; have := HX.out; omega
    case rel =>
     (have e1 : wrap64 (x + 1) = x + 1 := by have := HLN.out; have := C2.out; have := A.out.1; unfold wrap64; omega); (refine ⟨x + 1, by rw [e1], ⟨⟨by have := A.out; omega, by have := C2.out; omega, by have := A.out; omega, fun j h => ?_⟩⟩, by repeat (first | exact Drawn0.refl _ | apply Drawn0.step)⟩); (by_cases e : j = x.toNat)
     (focus ((subst e); (exact HQ.out))); (focus ((exact A.out.2.2.2 j (by omega))))
  (focus ((have c2b0 := decide_eq_false c2); (have C2 := Aside0.mk c2); clear c2; (go_wp2); (go_ret); (refine ⟨?_, by repeat (first | exact Drawn0.refl _ | apply Drawn0.step)⟩); (rw [Gen.idxP_missD p l0 0 (fun j h => A.out.2.2.2 j (by have := C2.out; omega))]); (rfl)))

set_option maxHeartbeats 2000000 in
theorem ContainsFunc_int (A0 : Option Addr) (c0 : Nat) (l0 : List Int) (g : Nat) (lb : Array Value) (p : Int → Bool) (w : World) (hr0 : Kd.C (Kd.int .i64) w A0 l0.length l0) (hc0 : l0.length ≤ c0)
  (eg : ∀ args w, (callFunc g args).run Try.prog w = .ok (.enter g args) w)
  (hp : ∀ (W : World) (x : Int), x ∈ l0 → Drawn0 w W → Calls Try.prog g (#[.int .i64 x] ++ lb) W fun e w' => e = .returned (.bool (p x)) ∧ Drawn0 W w') :
  Calls Try.prog 91 #[.slice A0 l0.length c0, .func (.func g) #[] lb] w fun e w' => e = .returned (.bool (l0.any p)) ∧ Drawn0 w w' := by
 (have HI := Aside0.mk (IndexFunc_int A0 c0 l0 g lb p w hr0 hc0 eg hp)); clear hr0 hc0 hp eg; (rw [← Gen.idxP_any]); (generalize Gen.idxP p l0 = r at HI ⊢); (go_enter Try.func91, Try.ntmps91); (go_wp2_with (go_at_call 102; refine HI.out.mono ?_; rintro e w' ⟨rfl, ⟨q, rfl⟩⟩)); (go_ret); (exact ⟨rfl, by repeat (first | exact Drawn0.refl _ | apply Drawn0.step)⟩)

-- NOT PRINTED: function 76 (impl_view_valuesOK)

def impl_isOp.f (a0 : Int) : Option (Bool) := (impl_within.f a0 1 11).bind fun t120 => (some t120)
theorem impl_isOp.calls (a0 : Int) (r : Bool) (w : World) (h : impl_isOp.f a0 = some r) :
  Calls Try.prog 100 #[.int .i64 a0] w fun e w' => e = .returned (.bool r) ∧ Drawn0 w w' := by
 (have H : ((impl_within.f a0 1 11).bind fun t120 => (some t120)) = some r := h); clear h; (obtain ⟨t120, A20, H⟩ := Option.bind_eq_some_iff.mp H); (replace H : (some t120) = some r := H); (have A2 := Aside0.mk A20); clear A20; (obtain rfl := Option.some.inj H); (go_enter Try.func100, Try.ntmps100); (go_wp2_with (first | ((with_reducible refine gate_callee (f := 33) rfl ?_); refine goesL_ (some 4) rfl rfl Try.func33 (by kernel_rfl) rfl #[.int .i64 a0, .int .i64 1, .int .i64 11] rfl eqQ ?_; (with_reducible refine (impl_within.calls a0 1 11 t120 _ A2.out).mono ?_); rintro e w' ⟨rfl, ⟨nd, rfl⟩⟩; refine ⟨_, rfl, ?_⟩))); (go_ret); (exact ⟨rsQ, by repeat (first | exact Drawn0.refl _ | apply Drawn0.step)⟩)

def impl_arity.j0 : Nat → Int → Bool → Option (Int)
 | 0, _, _ => none
 | k + 1, x3, x4 => if x4 = true then (some 0) else (if x3 = 3 then (some 1) else (if x3 = 11 then (some 3) else (some 2)))
def impl_arity.f (k : Nat) (a0 : Int) : Option (Int) := if a0 = 1 then (impl_arity.j0 k a0 (a0 == 1)) else (impl_arity.j0 k a0 (a0 == 2))
theorem impl_arity.calls (k : Nat) (a0 : Int) (r : Int) (w : World) (h : impl_arity.f k a0 = some r) :
  Calls Try.prog 101 #[.int .i64 a0] w fun e w' => e = .returned (.int .i64 r) ∧ Drawn0 w w' := by
 (have H : (if a0 = 1 then (impl_arity.j0 k a0 (a0 == 1)) else (impl_arity.j0 k a0 (a0 == 2))) = some r := h); clear h; (have HC2 := Aside0.mk H); clear H; (go_enter Try.func101, Try.ntmps101)
 go_upto_if 4 with (fail)
 go_cut [4] (fun v4 wc => ∃ (kq : Nat) (x4_1 : Bool), v4 = .bool x4_1 ∧ Aside0 (impl_arity.j0 kq a0 x4_1 = some r) ∧ Aside0 (kq ≤ k) ∧ Drawn0 w wc)
 case first =>
  (have H := HC2.out); clear HC2; (by_cases c3 : a0 = 1)
  ·rw [if_pos c3] at H
   (have c3b0 : (a0 == 1) = true := beq_iff_eq.mpr c3); (have c3b1 : (a0 != 1) = false := bne_eq_false_iff_eq.mpr c3); clear c3; (first | rw [c3b0] | (simp only [i64_w, i32_w]; rw [c3b0]) | skip); (have H' := Aside0.mk H); clear H; (go_wp2)
   go_meet
   case rel => exact ⟨_, ((a0 == 1)), rsQ, H', ⟨by first | omega | exact Nat.le_refl _⟩, by repeat (first | exact Drawn0.refl _ | apply Drawn0.step)⟩
  ·rw [if_neg c3] at H
   (have c3b0 : (a0 == 1) = false := beq_eq_false_iff_ne.mpr c3); (have c3b1 : (a0 != 1) = true := bne_iff_ne.mpr c3); (first | rw [c3b0] | (simp only [i64_w, i32_w]; rw [c3b0]) | skip); (have H' := Aside0.mk H); clear H; (go_wp2)
   go_meet
   case rel => exact ⟨_, ((a0 == 2)), rsQ, H', ⟨by first | omega | exact Nat.le_refl _⟩, by repeat (first | exact Drawn0.refl _ | apply Drawn0.step)⟩
 case rest =>
  clear HC2; (try clear c1); (try clear p2); (try clear c3); (try clear c3b0); (try clear c3b1); (obtain ⟨kq, x4_1, rfl, HA, HJ1, ⟨mc1, rfl⟩⟩ := hcut)
  cases kq with
  | zero => exact absurd HA.out (by simp [impl_arity.j0])
  | succ kj1 =>
   (have H := HA.out); clear HA; (simp only [impl_arity.j0] at H); (by_cases c4 : x4_1 = true)
   (focus ((subst c4); (have H1 : (some 0) = some r := by rw [if_pos rfl] at H; exact H); clear H; (have H := H1); clear H1; (obtain rfl := Option.some.inj H); (go_wp2); (go_ret); (exact ⟨rsQ, by repeat (first | exact Drawn0.refl _ | apply Drawn0.step)⟩))); (focus ((replace c4 := Bool.eq_false_iff.mpr c4); (subst c4); (have H1 : (if a0 = 3 then (some 1) else (if a0 = 11 then (some 3) else (some 2))) = some r := by rw [if_neg (show ¬ (false = true) by decide)] at H; exact H); clear H; (have H := H1); clear H1; (by_cases c5 : a0 = 3); (focus ((rw [if_pos c5] at H); (have c5b0 : (a0 == 3) = true := beq_iff_eq.mpr c5); (have c5b1 : (a0 != 3) = false := bne_eq_false_iff_eq.mpr c5); clear c5; (obtain rfl := Option.some.inj H); (go_wp2); (go_ret); (exact ⟨rsQ, by repeat (first | exact Drawn0.refl _ | apply Drawn0.step)⟩))); (focus ((rw [if_neg c5] at H); (have c5b0 : (a0 == 3) = false := beq_eq_false_iff_ne.mpr c5); (have c5b1 : (a0 != 3) = true := bne_iff_ne.mpr c5); (by_cases c6 : a0 = 11); (focus ((rw [if_pos c6] at H); (have c6b0 : (a0 == 11) = true := beq_iff_eq.mpr c6); (have c6b1 : (a0 != 11) = false := bne_eq_false_iff_eq.mpr c6); clear c6; (obtain rfl := Option.some.inj H); (go_wp2); (go_ret); (exact ⟨rsQ, by repeat (first | exact Drawn0.refl _ | apply Drawn0.step)⟩))); (focus ((rw [if_neg c6] at H); (have c6b0 : (a0 == 11) = false := beq_eq_false_iff_ne.mpr c6); (have c6b1 : (a0 != 11) = true := bne_iff_ne.mpr c6); (obtain rfl := Option.some.inj H); (go_wp2); (go_ret); (exact ⟨rsQ, by repeat (first | exact Drawn0.refl _ | apply Drawn0.step)⟩)))))))

def impl_argsOf.f (k : Nat) (a0 : Int) : Option (Int) := if a0 = 12 then (some 1) else (if a0 = 13 then (some 2) else ((impl_isOp.f a0).bind fun t121 => (if t121 = true then (if a0 = 2 then (some (-1)) else ((impl_arity.f k a0).bind fun t122 => (some t122))) else (some (-1)))))
theorem impl_argsOf.calls (k : Nat) (a0 : Int) (r : Int) (w : World) (h : impl_argsOf.f k a0 = some r) :
  Calls Try.prog 89 #[.int .i64 a0] w fun e w' => e = .returned (.int .i64 r) ∧ Drawn0 w w' := by
 (have H : (if a0 = 12 then (some 1) else (if a0 = 13 then (some 2) else ((impl_isOp.f a0).bind fun t121 => (if t121 = true then (if a0 = 2 then (some (-1)) else ((impl_arity.f k a0).bind fun t122 => (some t122))) else (some (-1)))))) = some r := h); clear h; (by_cases c2 : a0 = 12)
 (focus ((rw [if_pos c2] at H); (have c2b0 : (a0 == 12) = true := beq_iff_eq.mpr c2); (have c2b1 : (a0 != 12) = false := bne_eq_false_iff_eq.mpr c2); clear c2; (obtain rfl := Option.some.inj H); (go_enter Try.func89, Try.ntmps89); (go_wp2); (go_ret); (exact ⟨rsQ, by repeat (first | exact Drawn0.refl _ | apply Drawn0.step)⟩)))
 ·rw [if_neg c2] at H
  (have c2b0 : (a0 == 12) = false := beq_eq_false_iff_ne.mpr c2); (have c2b1 : (a0 != 12) = true := bne_iff_ne.mpr c2); (by_cases c3 : a0 = 13)
  (focus ((rw [if_pos c3] at H); (have c3b0 : (a0 == 13) = true := beq_iff_eq.mpr c3); (have c3b1 : (a0 != 13) = false := bne_eq_false_iff_eq.mpr c3); clear c3; (obtain rfl := Option.some.inj H); (go_enter Try.func89, Try.ntmps89); (go_wp2); (go_ret); (exact ⟨rsQ, by repeat (first | exact Drawn0.refl _ | apply Drawn0.step)⟩)))
  ·rw [if_neg c3] at H
   (have c3b0 : (a0 == 13) = false := beq_eq_false_iff_ne.mpr c3); (have c3b1 : (a0 != 13) = true := bne_iff_ne.mpr c3); (obtain ⟨t121, A40, H⟩ := Option.bind_eq_some_iff.mp H); (replace H : (if t121 = true then (if a0 = 2 then (some (-1)) else ((impl_arity.f k a0).bind fun t122 => (some t122))) else (some (-1))) = some r := H); (have A4 := Aside0.mk A40); clear A40; (by_cases c5 : t121 = true)
   (focus ((subst c5); (have H1 : (if a0 = 2 then (some (-1)) else ((impl_arity.f k a0).bind fun t122 => (some t122))) = some r := by rw [if_pos rfl] at H; exact H); clear H; (have H := H1); clear H1; (by_cases c6 : a0 = 2); (focus ((rw [if_pos c6] at H); (have c6b0 : (a0 == 2) = true := beq_iff_eq.mpr c6); (have c6b1 : (a0 != 2) = false := bne_eq_false_iff_eq.mpr c6); clear c6; (obtain rfl := Option.some.inj H); (go_enter Try.func89, Try.ntmps89); (go_wp2_with (first | ((with_reducible refine gate_callee (f := 100) rfl ?_); refine goesL_ (some 11) rfl rfl Try.func100 (by kernel_rfl) rfl #[.int .i64 a0] rfl eqQ ?_; (with_reducible refine (impl_isOp.calls a0 true _ A4.out).mono ?_); rintro e w' ⟨rfl, ⟨nd, rfl⟩⟩; refine ⟨_, rfl, ?_⟩))); (go_ret); (exact ⟨rsQ, by repeat (first | exact Drawn0.refl _ | apply Drawn0.step)⟩))); (focus ((rw [if_neg c6] at H); (have c6b0 : (a0 == 2) = false := beq_eq_false_iff_ne.mpr c6); (have c6b1 : (a0 != 2) = true := bne_iff_ne.mpr c6); (obtain ⟨t122, A70, H⟩ := Option.bind_eq_some_iff.mp H); (replace H : (some t122) = some r := H); (have A7 := Aside0.mk A70); clear A70; (obtain rfl := Option.some.inj H); (go_enter Try.func89, Try.ntmps89); (go_wp2_with (first | ((with_reducible refine gate_callee (f := 100) rfl ?_); refine goesL_ (some 11) rfl rfl Try.func100 (by kernel_rfl) rfl #[.int .i64 a0] rfl eqQ ?_; (with_reducible refine (impl_isOp.calls a0 true _ A4.out).mono ?_); rintro e w' ⟨rfl, ⟨nd, rfl⟩⟩; refine ⟨_, rfl, ?_⟩) | ((with_reducible refine gate_callee (f := 101) rfl ?_); refine goesL_ (some 17) rfl rfl Try.func101 (by kernel_rfl) rfl #[.int .i64 a0] rfl eqQ ?_; (with_reducible refine (impl_arity.calls k a0 t122 _ A7.out).mono ?_); rintro e w' ⟨rfl, ⟨nd, rfl⟩⟩; refine ⟨_, rfl, ?_⟩))); (go_ret); (exact ⟨rsQ, by repeat (first | exact Drawn0.refl _ | apply Drawn0.step)⟩))))); (focus ((replace c5 := Bool.eq_false_iff.mpr c5); (subst c5); (have H1 : (some (-1)) = some r := by rw [if_neg (show ¬ (false = true) by decide)] at H; exact H); clear H; (have H := H1); clear H1; (obtain rfl := Option.some.inj H); (go_enter Try.func89, Try.ntmps89); (go_wp2_with (first | ((with_reducible refine gate_callee (f := 100) rfl ?_); refine goesL_ (some 11) rfl rfl Try.func100 (by kernel_rfl) rfl #[.int .i64 a0] rfl eqQ ?_; (with_reducible refine (impl_isOp.calls a0 false _ A4.out).mono ?_); rintro e w' ⟨rfl, ⟨nd, rfl⟩⟩; refine ⟨_, rfl, ?_⟩))); (go_ret); (exact ⟨rsQ, by repeat (first | exact Drawn0.refl _ | apply Drawn0.step)⟩)))

end Go.Proofs.Ytpklnipnggocoaa.PFnExactRunFunc
