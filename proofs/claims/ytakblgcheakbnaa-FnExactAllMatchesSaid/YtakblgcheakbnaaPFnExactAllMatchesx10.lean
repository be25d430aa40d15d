/- Functions of the program and of the reference as plain Lean functions, and what their calls come to; partly printed by a program, partly by hand; no condition beyond what each theorem says. -/
import Derived.Test.YtakblgcheakbnaaPFnExactAllMatchesx0
namespace Go.Proofs.Ytakblgcheakbnaa.PFnExactAllMatches
open Go.RowKit Go.Proofs.YtakblgcheakbnaaW.PrintWords Go.Proofs.YtakblgcheakbnaaW.PrintLast Go.Proofs.YtakblgcheakbnaaW.PrintMore
attribute [local go_sem] max2_int min2_int max_two min_two max_three min_three max_four min_four
set_option linter.unusedVariables false
set_option linter.unusedSimpArgs false
set_option maxHeartbeats 8000000
set_option maxRecDepth 100000

set_option maxHeartbeats 2000000 in
theorem IndexFunc_int (A0 : Option Addr) (c0 : Nat) (l0 : List Int) (g : Nat) (lb : Array Value) (p : Int → Bool) (w : World) (hr0 : Kd.C (Kd.int .i64) w A0 l0.length l0) (hc0 : l0.length ≤ c0)
  (eg : ∀ args w, (callFunc g args).run Try.prog w = .ok (.enter g args) w)
  (hp : ∀ (W : World) (x : Int), x ∈ l0 → Drawn0 w W → Calls Try.prog g (#[.int .i64 x] ++ lb) W fun e w' => e = .returned (.bool (p x)) ∧ Drawn0 W w') :
  Calls Try.prog 150 #[.slice A0 l0.length c0, .func (.func g) #[] lb] w fun e w' => e = .returned (.int .i64 (Gen.idxP p l0)) ∧ Drawn0 w w' := by
 (have HR0 := Aside0.mk hr0); (have HC0 := Aside0.mk hc0); (have HP := Aside0.mk hp); (clear hr0 hc0 hp); (have hlen : l0.length ≤ 9223372036854775807 := HR0.out.2.1); (have HLN := Aside0.mk hlen); (clear hlen); (go_enter Try.func150, Try.ntmps150); (go_wp2)
 go_loopg [5, 8] l0.length (fun gg _ s8 wr => ∃ x : Int, s8 = .int .i64 x ∧ Aside0 (0 ≤ x ∧ x ≤ (l0.length : Int) ∧ l0.length - x.toNat ≤ gg ∧ ∀ j, j < x.toNat → p (l0.getD j 0) = false) ∧ Drawn0 w wr)
 case atStart => exact ⟨0, rfl, ⟨⟨by omega, by omega, by omega, fun j hj => absurd hj (Nat.not_lt_zero _)⟩⟩, by repeat (first | exact Drawn0.refl _ | apply Drawn0.step)⟩
 case round =>
  (obtain ⟨x, rfl, A, ⟨q, rfl⟩⟩ := hrel); (by_cases c2 : x < (l0.length : Int))
  ·have h0 := A.out.1
   (have hx : x.toNat < l0.length := by omega); (obtain ⟨ad, ead, hcell⟩ := Kd.at_int HR0.out x h0 c2); (cases ead); (have hmem : rd l0 x ∈ l0 := by simp [rd, List.getD_eq_getElem?_getD, hx]); (have HX := Aside0.mk hx); (clear hx); (have hcall := HP.out (w.drewN q) _ hmem ⟨q, rfl⟩); (clear hmem); (have c2b0 := decide_eq_true c2); (have h0b : decide (0 ≤ x) = true := decide_eq_true h0); (have C2 := Aside0.mk c2); (clear c2); (have c2t := eq_true C2.out); (replace h0 := eq_true h0)
   cases hq : p (rd l0 x) with
   | true =>
    (rw [hq] at hcall); (have HQ := Aside0.mk hq); (clear hq); (go_wp2_with (go_at_fn g; refine hcall.mono ?_; rintro e w' ⟨rfl, ⟨q', rfl⟩⟩)); (go_ret); (refine ⟨?_, by repeat (first | exact Drawn0.refl _ | apply Drawn0.step)⟩); (rw [Gen.idxP_hitD p l0 0 x.toNat HX.out A.out.2.2.2 HQ.out]); (rw [Int.toNat_of_nonneg A.out.1]); (rfl)
   | false =>
    (rw [hq] at hcall); (have HQ := Aside0.mk hq); (clear hq); (go_wp2_with (go_at_fn g; refine hcall.mono ?_; rintro e w' ⟨rfl, ⟨q', rfl⟩⟩)); (go_roundg (l0.length - (x.toNat + 1)))
    case measure => have := A.out; have := HX.out; omega
    case rel =>
     (have e1 : wrap64 (x + 1) = x + 1 := by have := HLN.out; have := C2.out; have := A.out.1; unfold wrap64; omega); (refine ⟨x + 1, by rw [e1], ⟨⟨by have := A.out; omega, by have := C2.out; omega, by have := A.out; omega, fun j h => ?_⟩⟩, by repeat (first | exact Drawn0.refl _ | apply Drawn0.step)⟩); (by_cases e : j = x.toNat)
     (focus ((subst e); (exact HQ.out))); (focus ((exact A.out.2.2.2 j (by omega))))
  (focus ((have c2b0 := decide_eq_false c2); (have C2 := Aside0.mk c2); (clear c2); (go_wp2); (go_ret); (refine ⟨?_, by repeat (first | exact Drawn0.refl _ | apply Drawn0.step)⟩); (rw [Gen.idxP_missD p l0 0 (fun j h => A.out.2.2.2 j (by have := C2.out; omega))]); (rfl)))

set_option maxHeartbeats 2000000 in
theorem ContainsFunc_int (A0 : Option Addr) (c0 : Nat) (l0 : List Int) (g : Nat) (lb : Array Value) (p : Int → Bool) (w : World) (hr0 : Kd.C (Kd.int .i64) w A0 l0.length l0) (hc0 : l0.length ≤ c0)
  (eg : ∀ args w, (callFunc g args).run Try.prog w = .ok (.enter g args) w)
  (hp : ∀ (W : World) (x : Int), x ∈ l0 → Drawn0 w W → Calls Try.prog g (#[.int .i64 x] ++ lb) W fun e w' => e = .returned (.bool (p x)) ∧ Drawn0 W w') :
  Calls Try.prog 92 #[.slice A0 l0.length c0, .func (.func g) #[] lb] w fun e w' => e = .returned (.bool (l0.any p)) ∧ Drawn0 w w' := by
 (have HI := Aside0.mk (IndexFunc_int A0 c0 l0 g lb p w hr0 hc0 eg hp)); (clear hr0 hc0 hp eg); (rw [← Gen.idxP_any]); (generalize Gen.idxP p l0 = r at HI ⊢); (go_enter Try.func92, Try.ntmps92); (go_wp2_with (go_at_call 150; refine HI.out.mono ?_; rintro e w' ⟨rfl, ⟨q, rfl⟩⟩)); (go_ret); (exact ⟨rfl, by repeat (first | exact Drawn0.refl _ | apply Drawn0.step)⟩)

def impl_within.f (a0 : Int) (a1 : Int) (a2 : Int) : Option (Bool) := if a0 ≥ a1 then (some (decide (a0 ≤ a2))) else (some false)
theorem impl_within.calls (a0 : Int) (a1 : Int) (a2 : Int) (r : Bool) (w : World) (h : impl_within.f a0 a1 a2 = some r) :
  Calls Try.prog 99 #[.int .i64 a0, .int .i64 a1, .int .i64 a2] w fun e w' => e = .returned (.bool r) ∧ Drawn0 w w' := by
 (have H : (if a0 ≥ a1 then (some (decide (a0 ≤ a2))) else (some false)) = some r := h); (clear h); (by_cases c4 : a0 ≥ a1)
 (focus ((rw [if_pos c4] at H); (have c4b0 := decide_eq_true c4); (clear c4); (obtain rfl := Option.some.inj H); (go_enter Try.func99, Try.ntmps99); (go_wp2); (go_ret); (exact ⟨rsQ, by repeat (first | exact Drawn0.refl _ | apply Drawn0.step)⟩))); (focus ((rw [if_neg c4] at H); (have c4b0 := decide_eq_false c4); (clear c4); (obtain rfl := Option.some.inj H); (go_enter Try.func99, Try.ntmps99); (go_wp2); (go_ret); (exact ⟨rsQ, by repeat (first | exact Drawn0.refl _ | apply Drawn0.step)⟩)))

def impl_isOp.f (a0 : Int) : Option (Bool) := (impl_within.f a0 1 11).bind fun t298 => (some t298)
theorem impl_isOp.calls (a0 : Int) (r : Bool) (w : World) (h : impl_isOp.f a0 = some r) :
  Calls Try.prog 187 #[.int .i64 a0] w fun e w' => e = .returned (.bool r) ∧ Drawn0 w w' := by
 (have H : ((impl_within.f a0 1 11).bind fun t298 => (some t298)) = some r := h); (clear h); (replace H := Option.bind_eq_some_iff.mp H); (obtain ⟨t298, A20, H⟩ := H); (replace H : (some t298) = some r := H); (have A2 := Aside0.mk A20); (clear A20); (obtain rfl := Option.some.inj H); (go_enter Try.func187, Try.ntmps187); (go_wp2_with (first | ((with_reducible refine gate_callee (f := 99) rfl ?_); refine goesL_ (some 4) rfl rfl Try.func99 (by kernel_rfl) rfl #[.int .i64 a0, .int .i64 1, .int .i64 11] rfl eqQ ?_; (with_reducible refine (impl_within.calls a0 1 11 t298 _ A2.out).mono ?_); rintro e w' ⟨rfl, ⟨nd, rfl⟩⟩; refine ⟨_, rfl, ?_⟩))); (go_ret); (exact ⟨rsQ, by repeat (first | exact Drawn0.refl _ | apply Drawn0.step)⟩)

def impl_numOK.f (a0 : Int) (a1 : Int) : Option (Bool) := if a0 = 1 then (some true) else (if a0 = 2 then (if a1 ≥ 0 then (some (decide (a1 < 4))) else (some false)) else ((impl_isOp.f a0).bind fun t299 => (if t299 = true then (some (a1 == 0)) else (some false))))
theorem impl_numOK.calls (a0 : Int) (a1 : Int) (r : Bool) (w : World) (h : impl_numOK.f a0 a1 = some r) :
  Calls Try.prog 174 #[.int .i64 a0, .int .i64 a1] w fun e w' => e = .returned (.bool r) ∧ Drawn0 w w' := by
 (have H : (if a0 = 1 then (some true) else (if a0 = 2 then (if a1 ≥ 0 then (some (decide (a1 < 4))) else (some false)) else ((impl_isOp.f a0).bind fun t299 => (if t299 = true then (some (a1 == 0)) else (some false))))) = some r := h); (clear h); (by_cases c3 : a0 = 1)
 (focus ((rw [if_pos c3] at H); (have c3b0 : (a0 == 1) = true := beq_iff_eq.mpr c3); (have c3b1 : (a0 != 1) = false := bne_eq_false_iff_eq.mpr c3); (clear c3); (obtain rfl := Option.some.inj H); (go_enter Try.func174, Try.ntmps174); (go_wp2); (go_ret); (exact ⟨rsQ, by repeat (first | exact Drawn0.refl _ | apply Drawn0.step)⟩)))
 ·rw [if_neg c3] at H
  (have c3b0 : (a0 == 1) = false := beq_eq_false_iff_ne.mpr c3); (have c3b1 : (a0 != 1) = true := bne_iff_ne.mpr c3); (by_cases c4 : a0 = 2)
  (focus ((rw [if_pos c4] at H); (have c4b0 : (a0 == 2) = true := beq_iff_eq.mpr c4); (have c4b1 : (a0 != 2) = false := bne_eq_false_iff_eq.mpr c4); (clear c4); (by_cases c5 : a1 ≥ 0); (focus ((rw [if_pos c5] at H); (have c5b0 := decide_eq_true c5); (clear c5); (obtain rfl := Option.some.inj H); (go_enter Try.func174, Try.ntmps174); (go_wp2); (go_ret); (exact ⟨rsQ, by repeat (first | exact Drawn0.refl _ | apply Drawn0.step)⟩))); (focus ((rw [if_neg c5] at H); (have c5b0 := decide_eq_false c5); (clear c5); (obtain rfl := Option.some.inj H); (go_enter Try.func174, Try.ntmps174); (go_wp2); (go_ret); (exact ⟨rsQ, by repeat (first | exact Drawn0.refl _ | apply Drawn0.step)⟩))))); (focus ((rw [if_neg c4] at H); (have c4b0 : (a0 == 2) = false := beq_eq_false_iff_ne.mpr c4); (have c4b1 : (a0 != 2) = true := bne_iff_ne.mpr c4); (replace H := Option.bind_eq_some_iff.mp H); (obtain ⟨t299, A60, H⟩ := H); (replace H : (if t299 = true then (some (a1 == 0)) else (some false)) = some r := H); (have A6 := Aside0.mk A60); (clear A60); (by_cases c7 : t299 = true); (focus ((subst c7); (have H1 : (some (a1 == 0)) = some r := by rw [if_pos rfl] at H; exact H); (clear H); (have H := H1); (clear H1); (obtain rfl := Option.some.inj H); (go_enter Try.func174, Try.ntmps174); (go_wp2_with (first | ((with_reducible refine gate_callee (f := 187) rfl ?_); refine goesL_ (some 17) rfl rfl Try.func187 (by kernel_rfl) rfl #[.int .i64 a0] rfl eqQ ?_; (with_reducible refine (impl_isOp.calls a0 true _ A6.out).mono ?_); rintro e w' ⟨rfl, ⟨nd, rfl⟩⟩; refine ⟨_, rfl, ?_⟩))); (go_ret); (exact ⟨rsQ, by repeat (first | exact Drawn0.refl _ | apply Drawn0.step)⟩))); (focus ((replace c7 := Bool.eq_false_iff.mpr c7); (subst c7); (have H1 : (some false) = some r := by rw [if_neg (show ¬ (false = true) by decide)] at H; exact H); (clear H); (have H := H1); (clear H1); (obtain rfl := Option.some.inj H); (go_enter Try.func174, Try.ntmps174); (go_wp2_with (first | ((with_reducible refine gate_callee (f := 187) rfl ?_); refine goesL_ (some 17) rfl rfl Try.func187 (by kernel_rfl) rfl #[.int .i64 a0] rfl eqQ ?_; (with_reducible refine (impl_isOp.calls a0 false _ A6.out).mono ?_); rintro e w' ⟨rfl, ⟨nd, rfl⟩⟩; refine ⟨_, rfl, ?_⟩))); (go_ret); (exact ⟨rsQ, by repeat (first | exact Drawn0.refl _ | apply Drawn0.step)⟩)))))

def impl_arity.j0 : Nat → Int → Bool → Option (Int)
 | 0, _, _ => none
 | k + 1, x3, x4 => if x4 = true then (some 0) else (if x3 = 3 then (some 1) else (if x3 = 11 then (some 3) else (some 2)))
def impl_arity.f (k : Nat) (a0 : Int) : Option (Int) := if a0 = 1 then (impl_arity.j0 k a0 (a0 == 1)) else (impl_arity.j0 k a0 (a0 == 2))
theorem impl_arity.calls (k : Nat) (a0 : Int) (r : Int) (w : World) (h : impl_arity.f k a0 = some r) :
  Calls Try.prog 175 #[.int .i64 a0] w fun e w' => e = .returned (.int .i64 r) ∧ Drawn0 w w' := by
 (have H : (if a0 = 1 then (impl_arity.j0 k a0 (a0 == 1)) else (impl_arity.j0 k a0 (a0 == 2))) = some r := h); (clear h); (have HC2 := Aside0.mk H); (clear H); (go_enter Try.func175, Try.ntmps175)
 go_upto_if 4 with (fail)
 go_cut [4] (fun v4 wc => ∃ (kq : Nat) (x4_1 : Bool), v4 = .bool x4_1 ∧ Aside0 (impl_arity.j0 kq a0 x4_1 = some r) ∧ Aside0 (kq ≤ k) ∧ Drawn0 w wc)
 case first =>
  (have H := HC2.out); (clear HC2); (by_cases c3 : a0 = 1)
  ·rw [if_pos c3] at H
   (have c3b0 : (a0 == 1) = true := beq_iff_eq.mpr c3); (have c3b1 : (a0 != 1) = false := bne_eq_false_iff_eq.mpr c3); (clear c3); (first | rw [c3b0] | (simp only [i64_w, i32_w]; rw [c3b0]) | skip); (have H' := Aside0.mk H); (clear H); (go_wp2)
   go_meet
   case rel => exact ⟨_, ((a0 == 1)), rsQ, H', ⟨by first | omega | exact Nat.le_refl _⟩, by repeat (first | exact Drawn0.refl _ | apply Drawn0.step)⟩
  ·rw [if_neg c3] at H
   (have c3b0 : (a0 == 1) = false := beq_eq_false_iff_ne.mpr c3); (have c3b1 : (a0 != 1) = true := bne_iff_ne.mpr c3); (first | rw [c3b0] | (simp only [i64_w, i32_w]; rw [c3b0]) | skip); (have H' := Aside0.mk H); (clear H); (go_wp2)
   go_meet
   case rel => exact ⟨_, ((a0 == 2)), rsQ, H', ⟨by first | omega | exact Nat.le_refl _⟩, by repeat (first | exact Drawn0.refl _ | apply Drawn0.step)⟩
 case rest =>
  (clear HC2); (try clear c1); (try clear p2); (try clear c3); (try clear c3b0); (try clear c3b1); (obtain ⟨kq, x4_1, rfl, HA, HJ1, ⟨mc1, rfl⟩⟩ := hcut)
  cases kq with
  | zero => exact absurd HA.out (by simp [impl_arity.j0])
  | succ kj1 =>
   (have H := HA.out); (clear HA); (simp only [impl_arity.j0] at H); (by_cases c4 : x4_1 = true)
   (focus ((subst c4); (have H1 : (some 0) = some r := by rw [if_pos rfl] at H; exact H); (clear H); (have H := H1); (clear H1); (obtain rfl := Option.some.inj H); (go_wp2); (go_ret); (exact ⟨rsQ, by repeat (first | exact Drawn0.refl _ | apply Drawn0.step)⟩))); (focus ((replace c4 := Bool.eq_false_iff.mpr c4); (subst c4); (have H1 : (if a0 = 3 then (some 1) else (if a0 = 11 then (some 3) else (some 2))) = some r := by rw [if_neg (show ¬ (false = true) by decide)] at H; exact H); (clear H); (have H := H1); (clear H1); (by_cases c5 : a0 = 3); (focus ((rw [if_pos c5] at H); (have c5b0 : (a0 == 3) = true := beq_iff_eq.mpr c5); (have c5b1 : (a0 != 3) = false := bne_eq_false_iff_eq.mpr c5); (clear c5); (obtain rfl := Option.some.inj H); (go_wp2); (go_ret); (exact ⟨rsQ, by repeat (first | exact Drawn0.refl _ | apply Drawn0.step)⟩))); (focus ((rw [if_neg c5] at H); (have c5b0 : (a0 == 3) = false := beq_eq_false_iff_ne.mpr c5); (have c5b1 : (a0 != 3) = true := bne_iff_ne.mpr c5); (by_cases c6 : a0 = 11); (focus ((rw [if_pos c6] at H); (have c6b0 : (a0 == 11) = true := beq_iff_eq.mpr c6); (have c6b1 : (a0 != 11) = false := bne_eq_false_iff_eq.mpr c6); (clear c6); (obtain rfl := Option.some.inj H); (go_wp2); (go_ret); (exact ⟨rsQ, by repeat (first | exact Drawn0.refl _ | apply Drawn0.step)⟩))); (focus ((rw [if_neg c6] at H); (have c6b0 : (a0 == 11) = false := beq_eq_false_iff_ne.mpr c6); (have c6b1 : (a0 != 11) = true := bne_iff_ne.mpr c6); (obtain rfl := Option.some.inj H); (go_wp2); (go_ret); (exact ⟨rsQ, by repeat (first | exact Drawn0.refl _ | apply Drawn0.step)⟩)))))))

theorem enArityC (op : Int) (w : World) : Calls Try.prog 175 #[.int .i64 op] w fun e w' => e = .returned (.int .i64 (Tree.arity op)) ∧ Drawn0 w w' := by
 (refine impl_arity.calls 1 op _ w ?_); (unfold impl_arity.f Tree.arity); (by_cases h1 : op = 1)
 (focus ((subst h1; rfl))); (focus ((rw [if_neg h1]); (simp only [impl_arity.j0]); (by_cases h2 : op = 2); (focus ((subst h2; rfl))); (focus ((rw [if_neg (by simpa using h2), if_neg (by omega : ¬ (op = 1 ∨ op = 2))]); (by_cases h3 : op = 3); (focus ((rw [if_pos h3, if_pos h3]))); (focus ((rw [if_neg h3, if_neg h3]); (by_cases h4 : op = 11); (focus ((rw [if_pos h4, if_pos h4]))); (focus ((rw [if_neg h4, if_neg h4])))))))))
theorem enNumOKC (op n : Int) (w : World) : Calls Try.prog 174 #[.int .i64 op, .int .i64 n] w fun e w' => e = .returned (.bool (Tree.numOK op n)) ∧ Drawn0 w w' := by
 (refine impl_numOK.calls op n _ w ?_); (unfold impl_numOK.f Tree.numOK impl_isOp.f impl_within.f); (by_cases h1 : op = 1)
 (focus ((rw [if_pos h1, if_pos h1]))); (focus ((rw [if_neg h1, if_neg h1]); (by_cases h2 : op = 2); (focus ((rw [if_pos h2, if_pos h2]); (by_cases h3 : n ≥ 0); (focus ((rw [if_pos h3]; congr 1; rw [decide_eq_decide]; omega))); (focus ((rw [if_neg h3, decide_eq_false (by omega)]))))); (focus ((rw [if_neg h2, if_neg h2]); (by_cases h3 : op ≥ 1); (focus ((rw [if_pos h3]); (by_cases h4 : op ≤ 11); (focus ((rw [decide_eq_true h4, Option.bind_some, Option.bind_some, if_pos rfl]); (congr 1); (rw [Bool.eq_iff_iff]; simp; omega))); (focus ((rw [decide_eq_false h4, decide_eq_false (by omega)]; rfl))))); (focus ((rw [if_neg h3, decide_eq_false (by omega)]; rfl)))))))
theorem enWithinC (a b c : Int) (w : World) : Calls Try.prog 99 #[.int .i64 a, .int .i64 b, .int .i64 c] w fun e w' => e = .returned (.bool (decide (b ≤ a ∧ a ≤ c))) ∧ Drawn0 w w' := by
 (refine impl_within.calls a b c _ w ?_); (unfold impl_within.f); (by_cases h : a ≥ b)
 (focus ((rw [if_pos h]; congr 1; rw [decide_eq_decide]; omega))); (focus ((rw [if_neg h, decide_eq_false (by omega)])))
set_option maxHeartbeats 2000000 in
theorem enodeOK_pred (most : Int) (B : Nat) (w : World) (hB : w.cell? ⟨B, 0, none⟩ = some (.int .i64 most)) (x : Int) :
  Calls Try.prog 176 (#[.int .i64 x] ++ #[.pointer (some ⟨B, 0, none⟩)]) w fun e w' => e = .returned (.bool (!decide (0 ≤ x ∧ x ≤ wrap64 (most - 1)))) ∧ Drawn0 w w' := by
 (have HW := Aside0.mk (fun W => enWithinC x 0 (wrap64 (most - 1)) W)); (generalize decide (0 ≤ x ∧ x ≤ wrap64 (most - 1)) = b at HW ⊢); (show Calls Try.prog 176 #[.int .i64 x, .pointer (some ⟨B, 0, none⟩)] w _); (go_enter Try.func176, Try.ntmps176); (go_wp2_with (go_at_call 99; refine (HW.out _).mono ?_; rintro e w' ⟨rfl, ⟨q, rfl⟩⟩)); (go_ret); (exact ⟨rfl, by repeat (first | exact Drawn0.refl _ | apply Drawn0.step)⟩)
def outB (kids : List Int) (most : Int) : Bool := kids.any fun x => !decide (0 ≤ x ∧ x ≤ wrap64 (most - 1))
def impl_enodeOK.f (a0_0 : Int) (a0_1 : Int) (l0_2 : List Int) (a1 : Int) : Option Bool := some (Tree.numOK a0_0 a0_1 && (((l0_2.length : Int) == Tree.arity a0_0) && !outB l0_2 a1))
theorem impl_enodeOK.calls (a0_0 : Int) (a0_1 : Int) (A0_2 : Option Addr) (c0_2 : Nat) (l0_2 : List Int) (a1 : Int) (r : Bool) (w : World) (hr0_2 : Kd.C (Kd.int .i64) w A0_2 l0_2.length l0_2) (hc0_2 : l0_2.length ≤ c0_2) (h : impl_enodeOK.f a0_0 a0_1 l0_2 a1 = some r) :
  Calls Try.prog 147 #[.agg #[.int .i64 a0_0, .int .i64 a0_1, .slice A0_2 l0_2.length c0_2], .int .i64 a1] w fun e w' => e = .returned (.bool r) ∧ Below w.heap.size w w' := by
 (have hu := Try.underlying114); (obtain rfl := Option.some.inj h); (have hN := Aside0.mk fun W => enNumOKC a0_0 a0_1 W); (have hA := Aside0.mk fun W => enArityC a0_0 W); (have eg : ∀ args w, (callFunc 176 args).run Try.prog w = .ok (.enter 176 args) w := enters_ Try.func176 (by kernel_rfl) rfl)
 have HC : Aside0 (∀ (B : Nat) (W : World), Below w.heap.size w W → W.cell? ⟨B, 0, none⟩ = some (.int .i64 a1) → Calls Try.prog 92 #[.slice A0_2 l0_2.length c0_2, .func (.func 176) #[] #[.pointer (some ⟨B, 0, none⟩)]] W fun e w' => e = .returned (.bool (outB l0_2 a1)) ∧ Drawn0 W w') :=
  ⟨fun B W hW hB => ContainsFunc_int A0_2 c0_2 l0_2 176 #[.pointer (some ⟨B, 0, none⟩)] (fun x => !decide (0 ≤ x ∧ x ≤ wrap64 (a1 - 1))) W (Kd.C_below hr0_2 hW) hc0_2 eg (by rintro W' x _ ⟨q, rfl⟩; exact enodeOK_pred a1 B _ (by go_simp) x)⟩
 (clear hr0_2 hc0_2 eg h); (generalize Tree.numOK a0_0 a0_1 = b0 at hN ⊢); (generalize Tree.arity a0_0 = ar at hA ⊢); (generalize outB l0_2 a1 = b2 at HC ⊢); (generalize hq : ((l0_2.length : Int) == ar) = b1)
 cases b0 with
 | false =>
  (go_enter Try.func147, Try.ntmps147); (go_wp2); (go_quiet ((first | (go_at_call 174; refine (hN.out _).mono ?_; rintro e w' ⟨rfl, ⟨nd, rfl⟩⟩; (first | exact ⟨rfl, _, World.drewN_drewN _ _ _⟩ | exact ⟨rfl, _, Eq.trans (World.drewN_drewN _ _ _) (congrArg (World.drewN _) (Nat.add_assoc _ _ _))⟩))))); (go_wp2); (go_ret); (exact ⟨rfl, by repeat (first | exact Below.refl _ _ | apply below_alloc | apply pw_below_drewN)⟩)
 | true =>
  cases b1 with
  | false =>
   (go_enter Try.func147, Try.ntmps147); (go_wp2); (go_quiet ((first | (go_at_call 174; refine (hN.out _).mono ?_; rintro e w' ⟨rfl, ⟨nd, rfl⟩⟩; (first | exact ⟨rfl, _, World.drewN_drewN _ _ _⟩ | exact ⟨rfl, _, Eq.trans (World.drewN_drewN _ _ _) (congrArg (World.drewN _) (Nat.add_assoc _ _ _))⟩)) | (go_at_call 175; refine (hA.out _).mono ?_; rintro e w' ⟨rfl, ⟨nd, rfl⟩⟩; (first | exact ⟨rfl, _, World.drewN_drewN _ _ _⟩ | exact ⟨rfl, _, Eq.trans (World.drewN_drewN _ _ _) (congrArg (World.drewN _) (Nat.add_assoc _ _ _))⟩))))); (go_wp2); (go_ret); (exact ⟨rfl, by repeat (first | exact Below.refl _ _ | apply below_alloc | apply pw_below_drewN)⟩)
  | true =>
   (go_enter Try.func147, Try.ntmps147); (go_wp2); (go_quiet ((first | (go_at_call 174; refine (hN.out _).mono ?_; rintro e w' ⟨rfl, ⟨nd, rfl⟩⟩; (first | exact ⟨rfl, _, World.drewN_drewN _ _ _⟩ | exact ⟨rfl, _, Eq.trans (World.drewN_drewN _ _ _) (congrArg (World.drewN _) (Nat.add_assoc _ _ _))⟩)) | (go_at_call 175; refine (hA.out _).mono ?_; rintro e w' ⟨rfl, ⟨nd, rfl⟩⟩; (first | exact ⟨rfl, _, World.drewN_drewN _ _ _⟩ | exact ⟨rfl, _, Eq.trans (World.drewN_drewN _ _ _) (congrArg (World.drewN _) (Nat.add_assoc _ _ _))⟩)) | (go_at_call 92; refine (HC.out _ _ (by repeat (first | exact Below.refl _ _ | apply below_alloc | apply pw_below_drewN)) (by go_simp)).mono ?_; rintro e w' ⟨rfl, ⟨nd, rfl⟩⟩; (first | exact ⟨rfl, _, World.drewN_drewN _ _ _⟩ | exact ⟨rfl, _, Eq.trans (World.drewN_drewN _ _ _) (congrArg (World.drewN _) (Nat.add_assoc _ _ _))⟩))))); (go_wp2); (go_ret); (exact ⟨by simp, by repeat (first | exact Below.refl _ _ | apply below_alloc | apply pw_below_drewN)⟩)
def VGG.f (l0 l1 : List Int) : Option Bool := if (l0.all fun c => decide (0 ≤ c ∧ c < (l1.length : Int))) = true then some (l0.any fun c => rd l1 c != c) else none
set_option maxHeartbeats 2000000 in
theorem GoodGraph_pred (A1 : Option Addr) (c1 : Nat) (l1 : List Int) (B : Nat) (w : World) (hr1 : Kd.C (Kd.int .i64) w A1 l1.length l1) (hc1 : l1.length ≤ c1)
  (hB : w.cell? ⟨B, 1, none⟩ = some (.slice A1 l1.length c1)) (x : Int) (h0 : 0 ≤ x) (h1 : x < (l1.length : Int)) :
  Calls Try.prog 93 (#[.int .i64 x] ++ #[.pointer (some ⟨B, 0, none⟩)]) w fun e w' => e = .returned (.bool (rd l1 x != x)) ∧ Drawn0 w w' := by
 (have hu := Try.underlying34); (have HR1 := Aside0.mk hr1); (have HC1 := Aside0.mk hc1); (clear hr1 hc1); (obtain ⟨ad, ead, hcell⟩ := Kd.at_int HR1.out x h0 h1); (cases ead); (have c2b0 := decide_eq_true h1); (have h0b : decide (0 ≤ x) = true := decide_eq_true h0); (replace h1 := eq_true h1); (replace h0 := eq_true h0); (generalize rd l1 x = y at hcell ⊢); (show Calls Try.prog 93 #[.int .i64 x, .pointer (some ⟨B, 0, none⟩)] w _); (go_enter Try.func93, Try.ntmps93); (go_wp2); (go_ret); (exact ⟨rfl, by repeat (first | exact Drawn0.refl _ | apply Drawn0.step)⟩)
theorem VGG.calls (A0 : Option Addr) (c0 : Nat) (l0 : List Int) (A1 : Option Addr) (c1 : Nat) (l1 : List Int) (r : Bool) (w : World) (hr0 : Kd.C (Kd.int .i64) w A0 l0.length l0) (hc0 : l0.length ≤ c0) (hr1 : Kd.C (Kd.int .i64) w A1 l1.length l1) (hc1 : l1.length ≤ c1) (h : VGG.f l0 l1 = some r) {B : Nat} (hB : w.cell? ⟨B, 1, none⟩ = some (.slice A1 l1.length c1) := by first | assumption | (go_simp; done) | (go_simp; exact ⟨rfl, rfl⟩)) :
  Calls Try.prog 92 #[.slice A0 l0.length c0, .func (.func 93) #[] #[.pointer (some ⟨B, 0, none⟩)]] w fun e w' => e = .returned (.bool r) ∧ Drawn0 w w' := by
 (have eg : ∀ args w, (callFunc 93 args).run Try.prog w = .ok (.enter 93 args) w := enters_ Try.func93 (by kernel_rfl) rfl); (unfold VGG.f at h); (split at h)
 case isFalse => exact absurd h (by simp)
 case isTrue hin =>
  (obtain rfl := Option.some.inj h); (refine ContainsFunc_int A0 c0 l0 93 #[.pointer (some ⟨B, 0, none⟩)] (fun c => rd l1 c != c) w hr0 hc0 eg ?_); (rintro W x hx ⟨q, rfl⟩); (have hx' := of_decide_eq_true (List.all_eq_true.1 hin x hx)); (exact GoodGraph_pred A1 c1 l1 B _ (Kd.C_drewN hr1 _) hc1 (by go_simp) x hx'.1 hx'.2)

def impl_looseOK.l0 : Nat → List (S114) → List (S114) → Int → Int → Option (Bool)
 | 0, _, _, _, _ => none
 | k + 1, x0, x5, x6, x7 => if x7 < x6 then (if 0 ≤ x7 then (if x7 < (x5.length : Int) then ((impl_enodeOK.f ((rd_T114 x5 x7).f0) ((rd_T114 x5 x7).f1) ((rd_T114 x5 x7).f2) x7).bind fun t302 => (if t302 = true then (impl_looseOK.l0 k x0 x5 x6 (wrap64 (x7 + 1))) else (some false))) else (none)) else (none)) else (some (decide ((x0.length : Int) ≤ 120)))
def impl_looseOK.f (k : Nat) (l0 : List (S114)) : Option (Bool) := impl_looseOK.l0 k l0 l0 (l0.length : Int) 0
theorem impl_looseOK.calls (k : Nat) (A0 : Option Addr) (c0 : Nat) (l0 : List (S114)) (r : Bool) (w : World) (hr0 : Kd.C k114 w A0 l0.length l0) (hc0 : l0.length ≤ c0) (h : impl_looseOK.f k l0 = some r) :
  Calls Try.prog 90 #[.slice A0 l0.length c0] w fun e w' => e = .returned (.bool r) ∧ Below w.heap.size w w' := by
 (have hu114 := Try.underlying114); (have HR0 := Aside0.mk hr0); (have HC0 := Aside0.mk hc0); (clear hr0 hc0); (have HB := Aside0.mk (Below.refl w.heap.size w)); (have H : (impl_looseOK.l0 k l0 l0 (l0.length : Int) 0) = some r := h); (clear h); (have H' := Aside0.mk H); (clear H); (go_enter Try.func90, Try.ntmps90); (go_wp2)
 go_loopg [7] k (fun kq v7 w' => ∃ (x7_1 : Int), v7 = .int .i64 x7_1 ∧ Aside0 (impl_looseOK.l0 kq l0 l0 (l0.length : Int) x7_1 = some r) ∧ Aside0 (kq ≤ k) ∧ Aside0 (Below w.heap.size w w'))
 case atStart => exact ⟨(0), rsQ, H', ⟨Nat.le_refl _⟩, ⟨hbQ⟩⟩
 case round =>
  (clear H'); (obtain ⟨x7_1, rfl, HA, HK1, HB⟩ := hrel)
  cases gk with
  | zero => exact absurd HA.out (by simp [impl_looseOK.l0])
  | succ k1 =>
   (have H := HA.out); (clear HA); (simp only [impl_looseOK.l0] at H); (by_cases c2 : x7_1 < (l0.length : Int))
   ·rw [if_pos c2] at H
    (have c2b0 := decide_eq_true c2); (clear c2); (by_cases c3 : 0 ≤ x7_1)
    ·rw [if_pos c3] at H
     (have c3b0 := decide_eq_true c3); (clear c3); (by_cases c4 : x7_1 < (l0.length : Int))
     ·rw [if_pos c4] at H
      (have c4b0 := decide_eq_true c4); (clear c4); (replace H := Option.bind_eq_some_iff.mp H); (obtain ⟨t302, A50, H⟩ := H); (replace H : (if t302 = true then (impl_looseOK.l0 k1 l0 l0 (l0.length : Int) (wrap64 (x7_1 + 1))) else (some false)) = some r := H); (have A5 := Aside0.mk A50); (clear A50); (by_cases c6 : t302 = true)
      ·subst c6
       (have H1 : (impl_looseOK.l0 k1 l0 l0 (l0.length : Int) (wrap64 (x7_1 + 1))) = some r := by rw [if_pos rfl] at H; exact H); (clear H); (have H := H1); (clear H1); (have H' := Aside0.mk H); (clear H); (have p300 : 0 ≤ (x7_1 : Int) := odQ); (have q300 : x7_1 < (l0.length : Int) := odQ); (obtain ⟨ad300, A300_2, c300_2, e300, hx300_0, hx300_1, hx300_2, hl300_2, hi300_2⟩ := at_T114 HR0.out x7_1 p300 q300); (cases e300); (replace hx300_0 := clQ HB hx300_0); (replace hx300_1 := clQ HB hx300_1); (replace hx300_2 := clQ HB hx300_2); (have HR300_2 := Aside0.mk hi300_2); (have HC300_2 := Aside0.mk hl300_2); (clear hi300_2 hl300_2); (replace p300 := eq_true p300); (replace q300 := eq_true q300); (go_wp2_with (first | ((with_reducible refine gate_dst (N := 4) rfl ?_); refine bxQ 4 #[.int .i64 0, .int .i64 0, .slice none 0 0] 114 ?_; intro gb301 hg w7 hbox hb; have n0_ := Aside0.mk (below_step hbQ hb); have n1_ := Aside0.mk (hbox); have n2_ := Aside0.mk (gwQ (w := w) hg); have n3_ := Aside0.mk (gwQ (w := w) hg); clear HB; have HB := n0_; have BK301 := n1_; have GW301 := n2_; have GE301 := n3_; clear n0_ n1_ n2_ n3_; clear hb hbox hg; have hcz8_0 := bcQ BK301 0 (.int .i64 0); have hcz8_1 := bcQ BK301 1 (.int .i64 0); have hcz8_2 := bcQ BK301 2 (.slice none 0 0); have hfz8_0 := blk_frozen BK301.out 0; have hfz8_1 := blk_frozen BK301.out 1; have hfz8_2 := blk_frozen BK301.out 2) | ((with_reducible refine gate_callee (f := 147) rfl ?_); refine goesL_ (some 14) rfl rfl Try.func147 (by kernel_rfl) rfl #[.agg #[.int .i64 ((rd_T114 l0 x7_1).f0), .int .i64 ((rd_T114 l0 x7_1).f1), .slice A300_2 ((rd_T114 l0 x7_1).f2).length c300_2], .int .i64 x7_1] rfl eqQ ?_; (with_reducible refine (impl_enodeOK.calls ((rd_T114 l0 x7_1).f0) ((rd_T114 l0 x7_1).f1) _ _ ((rd_T114 l0 x7_1).f2) x7_1 true _ ?side1 ?side2 A5.out).mono ?_); (case side1 => exact Kd.C_below HR300_2.out hbQ); (case side2 => exact HC300_2.out); rintro e w9 ⟨rfl, hb⟩; refine ⟨_, rfl, ?_⟩; have n0_ := Aside0.mk (blk_below (g := gb301) (o := .cells #[.int .i64 ((rd_T114 l0 x7_1).f0), .int .i64 ((rd_T114 l0 x7_1).f1), .slice A300_2 ((rd_T114 l0 x7_1).f2).length c300_2] 114 (0, 0)) (by (with_reducible repeat (first | refine blk_drewN ?_ _ | refine blk_drew ?_ | refine blk_alloc ?_ _)); refine blk_put (cs := #[.int .i64 ((rd_T114 l0 x7_1).f0), .int .i64 ((rd_T114 l0 x7_1).f1), .slice none 0 0]) ?_ 2 _ rfl; (with_reducible repeat (first | refine blk_drewN ?_ _ | refine blk_drew ?_ | refine blk_alloc ?_ _)); refine blk_put (cs := #[.int .i64 ((rd_T114 l0 x7_1).f0), .int .i64 0, .slice none 0 0]) ?_ 1 _ rfl; (with_reducible repeat (first | refine blk_drewN ?_ _ | refine blk_drew ?_ | refine blk_alloc ?_ _)); refine blk_put (cs := #[.int .i64 0, .int .i64 0, .slice none 0 0]) ?_ 0 _ rfl; (with_reducible repeat (first | refine blk_drewN ?_ _ | refine blk_drew ?_ | refine blk_alloc ?_ _)); exact BK301.out) hb); have n1_ := Aside0.mk (below_step hbQ hb); clear BK301; clear HB; have BK301 := n0_; have HB := n1_; clear n0_ n1_; (try clear hb); (try clear hb2); (try clear hk); (try clear hi)))); (go_roundg k1)
       case measure => have := HK1.out; omega
       case rel => exact ⟨(wrap64 (x7_1 + 1)), rsQ, H', ⟨by have := HK1.out; omega⟩, ⟨hbQ⟩⟩
      ·replace c6 := Bool.eq_false_iff.mpr c6
       (subst c6); (have H1 : (some false) = some r := by rw [if_neg (show ¬ (false = true) by decide)] at H; exact H); (clear H); (have H := H1); (clear H1); (obtain rfl := Option.some.inj H); (have p300 : 0 ≤ (x7_1 : Int) := odQ); (have q300 : x7_1 < (l0.length : Int) := odQ); (obtain ⟨ad300, A300_2, c300_2, e300, hx300_0, hx300_1, hx300_2, hl300_2, hi300_2⟩ := at_T114 HR0.out x7_1 p300 q300); (cases e300); (replace hx300_0 := clQ HB hx300_0); (replace hx300_1 := clQ HB hx300_1); (replace hx300_2 := clQ HB hx300_2); (have HR300_2 := Aside0.mk hi300_2); (have HC300_2 := Aside0.mk hl300_2); (clear hi300_2 hl300_2); (replace p300 := eq_true p300); (replace q300 := eq_true q300); (go_wp2_with (first | ((with_reducible refine gate_dst (N := 4) rfl ?_); refine bxQ 4 #[.int .i64 0, .int .i64 0, .slice none 0 0] 114 ?_; intro gb301 hg w10 hbox hb; have n0_ := Aside0.mk (below_step hbQ hb); have n1_ := Aside0.mk (hbox); have n2_ := Aside0.mk (gwQ (w := w) hg); have n3_ := Aside0.mk (gwQ (w := w) hg); clear HB; have HB := n0_; have BK301 := n1_; have GW301 := n2_; have GE301 := n3_; clear n0_ n1_ n2_ n3_; clear hb hbox hg; have hcz11_0 := bcQ BK301 0 (.int .i64 0); have hcz11_1 := bcQ BK301 1 (.int .i64 0); have hcz11_2 := bcQ BK301 2 (.slice none 0 0); have hfz11_0 := blk_frozen BK301.out 0; have hfz11_1 := blk_frozen BK301.out 1; have hfz11_2 := blk_frozen BK301.out 2) | ((with_reducible refine gate_callee (f := 147) rfl ?_); refine goesL_ (some 14) rfl rfl Try.func147 (by kernel_rfl) rfl #[.agg #[.int .i64 ((rd_T114 l0 x7_1).f0), .int .i64 ((rd_T114 l0 x7_1).f1), .slice A300_2 ((rd_T114 l0 x7_1).f2).length c300_2], .int .i64 x7_1] rfl eqQ ?_; (with_reducible refine (impl_enodeOK.calls ((rd_T114 l0 x7_1).f0) ((rd_T114 l0 x7_1).f1) _ _ ((rd_T114 l0 x7_1).f2) x7_1 false _ ?side1 ?side2 A5.out).mono ?_); (case side1 => exact Kd.C_below HR300_2.out hbQ); (case side2 => exact HC300_2.out); rintro e w12 ⟨rfl, hb⟩; refine ⟨_, rfl, ?_⟩; have n0_ := Aside0.mk (blk_below (g := gb301) (o := .cells #[.int .i64 ((rd_T114 l0 x7_1).f0), .int .i64 ((rd_T114 l0 x7_1).f1), .slice A300_2 ((rd_T114 l0 x7_1).f2).length c300_2] 114 (0, 0)) (by (with_reducible repeat (first | refine blk_drewN ?_ _ | refine blk_drew ?_ | refine blk_alloc ?_ _)); refine blk_put (cs := #[.int .i64 ((rd_T114 l0 x7_1).f0), .int .i64 ((rd_T114 l0 x7_1).f1), .slice none 0 0]) ?_ 2 _ rfl; (with_reducible repeat (first | refine blk_drewN ?_ _ | refine blk_drew ?_ | refine blk_alloc ?_ _)); refine blk_put (cs := #[.int .i64 ((rd_T114 l0 x7_1).f0), .int .i64 0, .slice none 0 0]) ?_ 1 _ rfl; (with_reducible repeat (first | refine blk_drewN ?_ _ | refine blk_drew ?_ | refine blk_alloc ?_ _)); refine blk_put (cs := #[.int .i64 0, .int .i64 0, .slice none 0 0]) ?_ 0 _ rfl; (with_reducible repeat (first | refine blk_drewN ?_ _ | refine blk_drew ?_ | refine blk_alloc ?_ _)); exact BK301.out) hb); have n1_ := Aside0.mk (below_step hbQ hb); clear BK301; clear HB; have BK301 := n0_; have HB := n1_; clear n0_ n1_; (try clear hb); (try clear hb2); (try clear hk); (try clear hi)))); (go_ret); (exact ⟨rtQ, hbQ⟩)
     (focus ((rw [if_neg c4] at H); (exact absurd H (by simp))))
    (focus ((rw [if_neg c3] at H); (exact absurd H (by simp))))
   (focus ((rw [if_neg c2] at H); (have c2b0 := decide_eq_false c2); (clear c2); (obtain rfl := Option.some.inj H); (go_wp2); (go_ret); (exact ⟨rtQ, hbQ⟩)))

def impl_parentsOK.l0 : Nat → List Int → List Int → Int → Int → Option (Bool)
 | 0, _, _, _, _ => none
 | k + 1, x0, x5, x6, x7 => if x7 < x6 then (if 0 ≤ x7 then (if x7 < (x5.length : Int) then ((impl_within.f (rd x5 x7) 0 x7).bind fun t304 => (if t304 = true then (impl_parentsOK.l0 k x0 x5 x6 (wrap64 (x7 + 1))) else (some false))) else (none)) else (none)) else (some (decide ((x0.length : Int) ≤ 200)))
def impl_parentsOK.f (k : Nat) (l0 : List Int) : Option (Bool) := impl_parentsOK.l0 k l0 l0 (l0.length : Int) 0
theorem impl_parentsOK.calls (k : Nat) (A0 : Option Addr) (c0 : Nat) (l0 : List Int) (r : Bool) (w : World) (hr0 : Kd.C (Kd.int .i64) w A0 l0.length l0) (hc0 : l0.length ≤ c0) (h : impl_parentsOK.f k l0 = some r) :
  Calls Try.prog 148 #[.slice A0 l0.length c0] w fun e w' => e = .returned (.bool r) ∧ Drawn0 w w' := by
 (have HR0 := Aside0.mk hr0); (have HC0 := Aside0.mk hc0); (clear hr0 hc0); (have H : (impl_parentsOK.l0 k l0 l0 (l0.length : Int) 0) = some r := h); (clear h); (have H' := Aside0.mk H); (clear H); (go_enter Try.func148, Try.ntmps148); (go_wp2)
 go_loopg [7] k (fun kq v7 w' => ∃ (x7_1 : Int), v7 = .int .i64 x7_1 ∧ Aside0 (impl_parentsOK.l0 kq l0 l0 (l0.length : Int) x7_1 = some r) ∧ Aside0 (kq ≤ k) ∧ Drawn0 w w')
 case atStart => exact ⟨(0), rsQ, H', ⟨Nat.le_refl _⟩, by repeat (first | exact Drawn0.refl _ | apply Drawn0.step)⟩
 case round =>
  (clear H'); (try clear c1); (obtain ⟨x7_1, rfl, HA, HK1, ⟨m1, rfl⟩⟩ := hrel)
  cases gk with
  | zero => exact absurd HA.out (by simp [impl_parentsOK.l0])
  | succ k1 =>
   (have H := HA.out); (clear HA); (simp only [impl_parentsOK.l0] at H); (by_cases c2 : x7_1 < (l0.length : Int))
   ·rw [if_pos c2] at H
    (have c2b0 := decide_eq_true c2); (clear c2); (by_cases c3 : 0 ≤ x7_1)
    ·rw [if_pos c3] at H
     (have c3b0 := decide_eq_true c3); (clear c3); (by_cases c4 : x7_1 < (l0.length : Int))
     ·rw [if_pos c4] at H
      (have c4b0 := decide_eq_true c4); (clear c4); (replace H := Option.bind_eq_some_iff.mp H); (obtain ⟨t304, A50, H⟩ := H); (replace H : (if t304 = true then (impl_parentsOK.l0 k1 l0 l0 (l0.length : Int) (wrap64 (x7_1 + 1))) else (some false)) = some r := H); (have A5 := Aside0.mk A50); (clear A50); (by_cases c6 : t304 = true)
      ·subst c6
       (have H1 : (impl_parentsOK.l0 k1 l0 l0 (l0.length : Int) (wrap64 (x7_1 + 1))) = some r := by rw [if_pos rfl] at H; exact H); (clear H); (have H := H1); (clear H1); (have H' := Aside0.mk H); (clear H); (have p303 : 0 ≤ (x7_1 : Int) := odQ); (have q303 : x7_1 < (l0.length : Int) := odQ); (obtain ⟨ad303, e303, hx303_0⟩ := Kd.at_int HR0.out x7_1 p303 q303); (cases e303); (replace p303 := eq_true p303); (replace q303 := eq_true q303); (go_wp2_with (first | ((with_reducible refine gate_callee (f := 99) rfl ?_); refine goesL_ (some 14) rfl rfl Try.func99 (by kernel_rfl) rfl #[.int .i64 (rd l0 x7_1), .int .i64 0, .int .i64 x7_1] rfl eqQ ?_; (with_reducible refine (impl_within.calls (rd l0 x7_1) 0 x7_1 true _ A5.out).mono ?_); rintro e w' ⟨rfl, ⟨nd, rfl⟩⟩; refine ⟨_, rfl, ?_⟩))); (go_roundg k1)
       case measure => have := HK1.out; omega
       case rel => exact ⟨(wrap64 (x7_1 + 1)), rsQ, H', ⟨by have := HK1.out; omega⟩, by repeat (first | exact Drawn0.refl _ | apply Drawn0.step)⟩
      (focus ((replace c6 := Bool.eq_false_iff.mpr c6); (subst c6); (have H1 : (some false) = some r := by rw [if_neg (show ¬ (false = true) by decide)] at H; exact H); (clear H); (have H := H1); (clear H1); (obtain rfl := Option.some.inj H); (have p303 : 0 ≤ (x7_1 : Int) := odQ); (have q303 : x7_1 < (l0.length : Int) := odQ); (obtain ⟨ad303, e303, hx303_0⟩ := Kd.at_int HR0.out x7_1 p303 q303); (cases e303); (replace p303 := eq_true p303); (replace q303 := eq_true q303); (go_wp2_with (first | ((with_reducible refine gate_callee (f := 99) rfl ?_); refine goesL_ (some 14) rfl rfl Try.func99 (by kernel_rfl) rfl #[.int .i64 (rd l0 x7_1), .int .i64 0, .int .i64 x7_1] rfl eqQ ?_; (with_reducible refine (impl_within.calls (rd l0 x7_1) 0 x7_1 false _ A5.out).mono ?_); rintro e w' ⟨rfl, ⟨nd, rfl⟩⟩; refine ⟨_, rfl, ?_⟩))); (go_ret); (exact ⟨rsQ, by repeat (first | exact Drawn0.refl _ | apply Drawn0.step)⟩)))
     (focus ((rw [if_neg c4] at H); (exact absurd H (by simp))))
    (focus ((rw [if_neg c3] at H); (exact absurd H (by simp))))
   (focus ((rw [if_neg c2] at H); (have c2b0 := decide_eq_false c2); (clear c2); (obtain rfl := Option.some.inj H); (go_wp2); (go_ret); (exact ⟨rsQ, by repeat (first | exact Drawn0.refl _ | apply Drawn0.step)⟩)))

set_option maxHeartbeats 2000000 in
theorem GoodParts_pred (A0 : Option Addr) (c0 : Nat) (l0 : List Int) (B : Nat) (w : World) (hr0 : Kd.C (Kd.int .i64) w A0 l0.length l0) (hc0 : l0.length ≤ c0)
  (hB : w.cell? ⟨B, 0, none⟩ = some (.slice A0 l0.length c0)) (x : Int) (h0 : 0 ≤ x) (h1 : x < (l0.length : Int)) :
  Calls Try.prog 149 (#[.int .i64 x] ++ #[.pointer (some ⟨B, 0, none⟩)]) w fun e w' => e = .returned (.bool (rd l0 x != x)) ∧ Drawn0 w w' := by
 (have HR0 := Aside0.mk hr0); (have HC0 := Aside0.mk hc0); (clear hr0 hc0); (obtain ⟨ad, ead, hcell⟩ := Kd.at_int HR0.out x h0 h1); (cases ead); (have c2b0 := decide_eq_true h1); (have h0b : decide (0 ≤ x) = true := decide_eq_true h0); (replace h1 := eq_true h1); (replace h0 := eq_true h0); (generalize rd l0 x = y at hcell ⊢); (show Calls Try.prog 149 #[.int .i64 x, .pointer (some ⟨B, 0, none⟩)] w _); (go_enter Try.func149, Try.ntmps149); (go_wp2); (go_ret); (exact ⟨rfl, by repeat (first | exact Drawn0.refl _ | apply Drawn0.step)⟩)

def impl_GoodParts.f (k : Nat) (l0 : List Int) : Option Bool := (impl_parentsOK.f k l0).bind fun b => if b = true then some (!(l0.any fun x => rd l0 x != x)) else some false
theorem impl_parentsOK.inside : ∀ (k : Nat) (l : List Int) (i : Int), 0 ≤ i → l.length ≤ 9223372036854775807 → impl_parentsOK.l0 k l l (l.length : Int) i = some true → ∀ j : Nat, i ≤ j → j < l.length → 0 ≤ l.getD j 0 ∧ l.getD j 0 < (l.length : Int) := by
 intro k
 induction k with
 | zero => intro l i _ _ h; simp [impl_parentsOK.l0] at h
 | succ k ih =>
  (intro l i hi hl h j hij hj); (simp only [impl_parentsOK.l0] at h); (by_cases c1 : i < (l.length : Int))
  (focus ((rw [if_pos c1, if_pos hi, if_pos c1] at h); (unfold impl_within.f at h); (by_cases c2 : rd l i ≥ 0); (focus ((rw [if_pos c2] at h); (by_cases c3 : rd l i ≤ i); (focus ((rw [decide_eq_true c3, Option.bind_some, if_pos rfl] at h); (have e1 : wrap64 (i + 1) = i + 1 := by unfold wrap64; omega); (rw [e1] at h); (by_cases e : i = (j : Int)); (focus ((subst e); (have e2 : rd l (j : Int) = l.getD j 0 := by simp [rd]); (rw [e2] at c2 c3); (omega))); (focus ((exact ih l (i + 1) (by omega) hl h j (by omega) hj))))); (focus ((rw [decide_eq_false c3, Option.bind_some, if_neg (by simp)] at h); (simp at h))))); (focus ((rw [if_neg c2, Option.bind_some, if_neg (by simp)] at h); (simp at h))))); (focus ((omega)))
set_option maxHeartbeats 4000000 in
theorem impl_GoodParts.calls (k : Nat) (A0 : Option Addr) (c0 : Nat) (l0 : List Int) (r : Bool) (w : World) (hr0 : Kd.C (Kd.int .i64) w A0 l0.length l0) (hc0 : l0.length ≤ c0) (h : impl_GoodParts.f k l0 = some r) :
  Calls Try.prog 91 #[.slice A0 l0.length c0] w fun e w' => e = .returned (.bool r) ∧ Below w.heap.size w w' := by
 (unfold impl_GoodParts.f at h); (obtain ⟨b, hb, h⟩ := Option.bind_eq_some_iff.mp h); (have HR0 := Aside0.mk hr0); (have HC0 := Aside0.mk hc0); (have HB := Aside0.mk hb); (clear hr0 hc0 hb); (have eg : ∀ args w, (callFunc 149 args).run Try.prog w = .ok (.enter 149 args) w := enters_ Try.func149 (by kernel_rfl) rfl)
 cases b with
 | false =>
  (simp at h); (subst h); (go_enter Try.func91, Try.ntmps91); (go_wp2_with (go_at_call 148; refine (impl_parentsOK.calls k A0 c0 l0 false _ (Kd.C_alloc HR0.out _) HC0.out HB.out).mono ?_; rintro e w' ⟨rfl, ⟨q, rfl⟩⟩)); (go_ret); (exact ⟨rfl, by repeat (first | exact Below.refl _ _ | apply below_alloc | apply pw_below_drewN)⟩)
 | true =>
  (rw [if_pos rfl] at h); (obtain rfl := Option.some.inj h); (clear h); (have hin := impl_parentsOK.inside k l0 0 (Int.le_refl _) HR0.out.2.1 HB.out); (have HI := Aside0.mk hin); (clear hin)
  have hpp : ∀ q (W : World) (x : Int), x ∈ l0 → Drawn0 ((w.alloc (.cells #[.slice A0 l0.length c0] 23)).drewN q) W → Calls Try.prog 149 (#[.int .i64 x] ++ #[.pointer (some ⟨w.heap.size, 0, none⟩)]) W fun e w' => e = .returned (.bool (rd l0 x != x)) ∧ Drawn0 W w' := by
   (rintro q W x hx ⟨n, rfl⟩); (obtain ⟨i, hi, rfl⟩ := List.getElem_of_mem hx); (have hb := HI.out i (by omega) hi); (rw [List.getD_eq_getElem?_getD, List.getElem?_eq_getElem hi] at hb); (exact GoodParts_pred A0 c0 l0 w.heap.size _ (Kd.C_drewN (Kd.C_drewN (Kd.C_alloc HR0.out _) _) _) HC0.out (by simp) _ hb.1 hb.2)
  (have HPP := Aside0.mk hpp); (clear hpp); (generalize hany : (l0.any fun x => rd l0 x != x) = y); (have HY := Aside0.mk hany); (clear hany); (go_enter Try.func91, Try.ntmps91); (go_wp2_with (first | (go_at_call 148; refine (impl_parentsOK.calls k A0 c0 l0 true _ (Kd.C_alloc HR0.out _) HC0.out HB.out).mono ?_; rintro e w' ⟨rfl, ⟨q, rfl⟩⟩) | (go_at_call 92; refine (ContainsFunc_int A0 c0 l0 149 #[.pointer (some ⟨w.heap.size, 0, none⟩)] (fun x => rd l0 x != x) _ (Kd.C_drewN (Kd.C_alloc HR0.out _) _) HC0.out eg (HPP.out _)).mono ?_; rw [HY.out]; rintro e w' ⟨rfl, ⟨q2, rfl⟩⟩))); (go_ret); (exact ⟨rfl, by repeat (first | exact Below.refl _ _ | apply below_alloc | apply pw_below_drewN)⟩)

end Go.Proofs.Ytakblgcheakbnaa.PFnExactAllMatches
