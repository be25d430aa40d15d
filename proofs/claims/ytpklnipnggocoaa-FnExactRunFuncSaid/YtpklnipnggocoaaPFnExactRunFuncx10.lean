/- Functions of the program and of the reference as plain Lean functions, and what their calls come to; partly printed by a program, partly by hand; no condition beyond what each theorem says. -/
import Derived.Test.YtpklnipnggocoaaPFnExactRunFuncx0
import Derived.Test.YtpklnipnggocoaaPFnExactRunFuncx2
namespace Go.Proofs.Ytpklnipnggocoaa.PFnExactRunFunc
open Go.RowKit Go.Proofs.YtpklnipnggocoaaW.PrintWords Go.Proofs.YtpklnipnggocoaaW.PrintLast Go.Proofs.YtpklnipnggocoaaW.PrintMore
attribute [local go_sem] max2_int min2_int max_two min_two max_three min_three max_four min_four
set_option linter.unusedVariables false
set_option linter.unusedSimpArgs false
set_option maxHeartbeats 8000000
set_option maxRecDepth 100000

def spec_l12Count.l0 : Nat → Int → List (S66) → Int → Int → Option (Int)
 | 0, _, _, _, _ => none
 | k + 1, x3, x9, x10, x11 => if x11 < x10 then (if 0 ≤ x11 then (if x11 < (x9.length : Int) then (spec_l12Count.l0 k (wrap64 (x3 + (wrap64 (((rd_T66 x9 x11).f0) + (((rd_T66 x9 x11).f1).length : Int))))) x9 x10 (wrap64 (x11 + 1))) else (none)) else (none)) else (some x3)
def spec_l12Count.f (k : Nat) (a0_0 : Int) (l0_1 : List (S66)) : Option (Int) := spec_l12Count.l0 k a0_0 l0_1 (l0_1.length : Int) 0
theorem spec_l12Count.calls (k : Nat) (a0_0 : Int) (A0_1 : Option Addr) (c0_1 : Nat) (l0_1 : List (S66)) (r : Int) (w : World) (hr0_1 : Kd.C k66 w A0_1 l0_1.length l0_1) (hc0_1 : l0_1.length ≤ c0_1) (h : spec_l12Count.f k a0_0 l0_1 = some r) :
  Calls Try.prog 39 #[.agg #[.int .i64 a0_0, .slice A0_1 l0_1.length c0_1]] w fun e w' => e = .returned (.int .i64 r) ∧ Below w.heap.size w w' := by
 (have hu33 := Try.underlying33); (have hu66 := Try.underlying66); (have HR0_1 := Aside0.mk hr0_1); (have HC0_1 := Aside0.mk hc0_1); clear hr0_1 hc0_1; (have HB := Aside0.mk (Below.refl w.heap.size w)); (have H : (spec_l12Count.l0 k a0_0 l0_1 (l0_1.length : Int) 0) = some r := h); clear h; (have H' := Aside0.mk H); clear H; (go_enter Try.func39, Try.ntmps39); (go_wp2_with (first | ((with_reducible refine gate_dst (N := 1) rfl ?_); refine bxQ 1 #[.int .i64 a0_0, .slice A0_1 l0_1.length c0_1] 33 ?_; intro gb168 hg w2 hbox hb; have n0_ := Aside0.mk (below_step hbQ hb); have n1_ := Aside0.mk (hbox); have n2_ := Aside0.mk (gwQ (w := w) hg); have n3_ := Aside0.mk (gwQ (w := w) hg); clear HB; have HB := n0_; have BK168 := n1_; have GW168 := n2_; have GE168 := n3_; clear n0_ n1_ n2_ n3_ hb hbox hg; have hcz3_0 := bcQ BK168 0 (.int .i64 a0_0); have hcz3_1 := bcQ BK168 1 (.slice A0_1 l0_1.length c0_1); have hfz3_0 := blk_frozen BK168.out 0; have hfz3_1 := blk_frozen BK168.out 1)))
 go_loopg [3, 11] k (fun kq v3 v11 w' => ∃ (x3_1 : Int) (x11_1 : Int), v3 = .int .i64 x3_1 ∧ v11 = .int .i64 x11_1 ∧ Aside0 (spec_l12Count.l0 kq x3_1 l0_1 (l0_1.length : Int) x11_1 = some r) ∧ Aside0 (kq ≤ k) ∧ Aside0 (w'.heap[gb168]? = some (.cells #[.int .i64 a0_0, (.slice A0_1 l0_1.length c0_1)] 33 (0, 0))) ∧ Aside0 (Below w.heap.size w w'))
 case atStart => exact ⟨(a0_0), (0), rsQ, rsQ, H', ⟨Nat.le_refl _⟩, ⟨bkQ⟩, ⟨hbQ⟩⟩
 case round =>
  clear H'; (try clear p2); (try clear c3); (try clear hcz3_0); (try clear hcz3_1); (try clear hfz3_0); (try clear hfz3_1); (obtain ⟨x3_1, x11_1, rfl, rfl, HA, HK1, BK168, HB⟩ := hrel)
  cases gk with
  | zero => exact absurd HA.out (by simp [spec_l12Count.l0])
  | succ k1 =>
   (have H := HA.out); clear HA; (simp only [spec_l12Count.l0] at H); (by_cases c4 : x11_1 < (l0_1.length : Int))
   ·rw [if_pos c4] at H
    (have c4b0 := decide_eq_true c4); clear c4; (by_cases c5 : 0 ≤ x11_1)
    ·rw [if_pos c5] at H
     (have c5b0 := decide_eq_true c5); clear c5; (by_cases c6 : x11_1 < (l0_1.length : Int))
     ·rw [if_pos c6] at H
      (have c6b0 := decide_eq_true c6); clear c6; (have H' := Aside0.mk H); clear H; (have p169 : 0 ≤ (x11_1 : Int) := odQ); (have q169 : x11_1 < (l0_1.length : Int) := odQ); (obtain ⟨ad169, A169_1, c169_1, A169_4, c169_4, e169, hx169_0, hx169_1, hx169_2, hx169_3, hx169_4, hl169_1, hi169_1, hl169_4, hi169_4⟩ := at_T66 HR0_1.out x11_1 p169 q169); (cases e169); (replace hx169_0 := clQ HB hx169_0); (replace hx169_1 := clQ HB hx169_1); (replace hx169_2 := clQ HB hx169_2); (replace hx169_3 := clQ HB hx169_3); (replace hx169_4 := clQ HB hx169_4); (have HR169_1 := Aside0.mk hi169_1); (have HC169_1 := Aside0.mk hl169_1); clear hi169_1 hl169_1; (have HR169_4 := Aside0.mk hi169_4); (have HC169_4 := Aside0.mk hl169_4); clear hi169_4 hl169_4; (replace p169 := eq_true p169); (replace q169 := eq_true q169); (go_wp2_with (first | ((with_reducible refine gate_dst (N := 5) rfl ?_); refine bxQ 5 #[.int .i64 0, .slice none 0 0, .int .i64 0, .int .i64 0, .slice none 0 0] 66 ?_; intro gb170 hg w7 hbox hb; have n0_ := Aside0.mk (blk_below (g := gb168) (o := .cells #[.int .i64 a0_0, .slice (some ad169) l0_1.length c0_1] 33 (0, 0)) bkQ hb); have n1_ := Aside0.mk (below_step hbQ hb); have n2_ := Aside0.mk (hbox); have n3_ := Aside0.mk (gwQ (w := w) hg); have n4_ := Aside0.mk (gwQ (w := w) hg); have n5_ := Aside0.mk ((by rw [hg]; exact Nat.ne_of_lt (blk_lt (g := gb168) (o := .cells #[.int .i64 a0_0, .slice (some ad169) l0_1.length c0_1] 33 (0, 0)) bkQ) : gb168 ≠ gb170)); have n6_ := Aside0.mk ((by rw [hg]; exact Nat.ne_of_gt (blk_lt (g := gb168) (o := .cells #[.int .i64 a0_0, .slice (some ad169) l0_1.length c0_1] 33 (0, 0)) bkQ) : gb170 ≠ gb168)); clear BK168 HB; have BK168 := n0_; have HB := n1_; have BK170 := n2_; have GW170 := n3_; have GE170 := n4_; have NB168_170 := n5_; have NB170_168 := n6_; clear n0_ n1_ n2_ n3_ n4_ n5_ n6_ hb hbox hg; have hnb8 := NB170_168.out; have hnc8 := NB168_170.out; have hcz9_0 := bcQ BK170 0 (.int .i64 0); have hcz9_1 := bcQ BK170 1 (.slice none 0 0); have hcz9_2 := bcQ BK170 2 (.int .i64 0); have hcz9_3 := bcQ BK170 3 (.int .i64 0); have hcz9_4 := bcQ BK170 4 (.slice none 0 0); have hfz9_0 := blk_frozen BK170.out 0; have hfz9_1 := blk_frozen BK170.out 1; have hfz9_2 := blk_frozen BK170.out 2; have hfz9_3 := blk_frozen BK170.out 3; have hfz9_4 := blk_frozen BK170.out 4))); (go_roundg k1)
      case measure => have := HK1.out; omega
      case rel => exact ⟨(wrap64 (x3_1 + (wrap64 (((rd_T66 l0_1 x11_1).f0) + (((rd_T66 l0_1 x11_1).f1).length : Int))))), (wrap64 (x11_1 + 1)), rsQ, rsQ, H', ⟨by have := HK1.out; omega⟩, ⟨by refine blk_far ?_ NB168_170.out _; refine blk_far ?_ NB168_170.out _; refine blk_far ?_ NB168_170.out _; refine blk_far ?_ NB168_170.out _; refine blk_far ?_ NB168_170.out _; (with_reducible repeat (first | refine blk_drewN ?_ _ | refine blk_drew ?_ | refine blk_alloc ?_ _)); exact BK168.out⟩, ⟨hbQ⟩⟩
     (focus ((rw [if_neg c6] at H); (exact absurd H (by simp))))
    (focus ((rw [if_neg c5] at H); (exact absurd H (by simp))))
   (focus ((rw [if_neg c4] at H); (have c4b0 := decide_eq_false c4); clear c4; (obtain rfl := Option.some.inj H); (go_wp2); (go_ret); (exact ⟨rtQ, hbQ⟩)))

def spec_l1Arity.j0 : Nat → Int → Bool → Option (Int)
 | 0, _, _ => none
 | k + 1, x0, x3 => if x3 = true then (some 0) else (if x0 = 3 then (some 1) else (if x0 = 11 then (some 3) else ((spec_l1In.f x0 4 10).bind fun t171 => (if t171 = true then (some 2) else (some (-1))))))
def spec_l1Arity.f (k : Nat) (a0 : Int) : Option (Int) := if a0 = 1 then (spec_l1Arity.j0 k a0 true) else (spec_l1Arity.j0 k a0 (a0 == 2))
theorem spec_l1Arity.calls (k : Nat) (a0 : Int) (r : Int) (w : World) (h : spec_l1Arity.f k a0 = some r) :
  Calls Try.prog 60 #[.int .i64 a0] w fun e w' => e = .returned (.int .i64 r) ∧ Drawn0 w w' := by
 (have H : (if a0 = 1 then (spec_l1Arity.j0 k a0 true) else (spec_l1Arity.j0 k a0 (a0 == 2))) = some r := h); clear h; (have HC2 := Aside0.mk H); clear H; (go_enter Try.func60, Try.ntmps60)
 go_upto_region 1 with (fail)
 go_cut [3] (fun v3 wc => ∃ (kq : Nat) (x3_1 : Bool), v3 = .bool x3_1 ∧ Aside0 (spec_l1Arity.j0 kq a0 x3_1 = some r) ∧ Aside0 (kq ≤ k) ∧ Drawn0 w wc)
 case first =>
  (have H := HC2.out); clear HC2; (by_cases c3 : a0 = 1)
  ·rw [if_pos c3] at H
   (have c3b0 : (a0 == 1) = true := beq_iff_eq.mpr c3); (have c3b1 : (a0 != 1) = false := bne_eq_false_iff_eq.mpr c3); clear c3; (first | rw [c3b0] | (simp only [i64_w, i32_w]; rw [c3b0]) | skip); (have H' := Aside0.mk H); clear H; (go_wp2)
   go_meet
   case rel => exact ⟨_, (true), rsQ, H', ⟨by first | omega | exact Nat.le_refl _⟩, by repeat (first | exact Drawn0.refl _ | apply Drawn0.step)⟩
  ·rw [if_neg c3] at H
   (have c3b0 : (a0 == 1) = false := beq_eq_false_iff_ne.mpr c3); (have c3b1 : (a0 != 1) = true := bne_iff_ne.mpr c3); (first | rw [c3b0] | (simp only [i64_w, i32_w]; rw [c3b0]) | skip); (have H' := Aside0.mk H); clear H; (go_wp2)
   go_meet
   case rel => exact ⟨_, ((a0 == 2)), rsQ, H', ⟨by first | omega | exact Nat.le_refl _⟩, by repeat (first | exact Drawn0.refl _ | apply Drawn0.step)⟩
 case rest =>
  clear HC2; (try clear p2); (try clear c3); (try clear c3b0); (try clear c3b1); (obtain ⟨kq, x3_1, rfl, HA, HJ1, ⟨mc1, rfl⟩⟩ := hcut)
  cases kq with
  | zero => exact absurd HA.out (by simp [spec_l1Arity.j0])
  | succ kj1 =>
   (have H := HA.out); clear HA; (simp only [spec_l1Arity.j0] at H); (by_cases c4 : x3_1 = true)
   (focus ((subst c4); (have H1 : (some 0) = some r := by rw [if_pos rfl] at H; exact H); clear H; (have H := H1); clear H1; (obtain rfl := Option.some.inj H); (go_wp2); (go_ret); (exact ⟨rsQ, by repeat (first | exact Drawn0.refl _ | apply Drawn0.step)⟩)))
   ·replace c4 := Bool.eq_false_iff.mpr c4
    (subst c4); (have H1 : (if a0 = 3 then (some 1) else (if a0 = 11 then (some 3) else ((spec_l1In.f a0 4 10).bind fun t171 => (if t171 = true then (some 2) else (some (-1)))))) = some r := by rw [if_neg (show ¬ (false = true) by decide)] at H; exact H); clear H; (have H := H1); clear H1; (by_cases c5 : a0 = 3)
    (focus ((rw [if_pos c5] at H); (have c5b0 : (a0 == 3) = true := beq_iff_eq.mpr c5); (have c5b1 : (a0 != 3) = false := bne_eq_false_iff_eq.mpr c5); clear c5; (obtain rfl := Option.some.inj H); (go_wp2); (go_ret); (exact ⟨rsQ, by repeat (first | exact Drawn0.refl _ | apply Drawn0.step)⟩))); (focus ((rw [if_neg c5] at H); (have c5b0 : (a0 == 3) = false := beq_eq_false_iff_ne.mpr c5); (have c5b1 : (a0 != 3) = true := bne_iff_ne.mpr c5); (by_cases c6 : a0 = 11); (focus ((rw [if_pos c6] at H); (have c6b0 : (a0 == 11) = true := beq_iff_eq.mpr c6); (have c6b1 : (a0 != 11) = false := bne_eq_false_iff_eq.mpr c6); clear c6; (obtain rfl := Option.some.inj H); (go_wp2); (go_ret); (exact ⟨rsQ, by repeat (first | exact Drawn0.refl _ | apply Drawn0.step)⟩))); (focus ((rw [if_neg c6] at H); (have c6b0 : (a0 == 11) = false := beq_eq_false_iff_ne.mpr c6); (have c6b1 : (a0 != 11) = true := bne_iff_ne.mpr c6); (obtain ⟨t171, A70, H⟩ := Option.bind_eq_some_iff.mp H); (replace H : (if t171 = true then (some 2) else (some (-1))) = some r := H); (have A7 := Aside0.mk A70); clear A70; (by_cases c8 : t171 = true); (focus ((subst c8); (have H1 : (some 2) = some r := by rw [if_pos rfl] at H; exact H); clear H; (have H := H1); clear H1; (obtain rfl := Option.some.inj H); (go_wp2_with (first | ((with_reducible refine gate_callee (f := 29) rfl ?_); refine goesL_ (some 18) rfl rfl Try.func29 (by kernel_rfl) rfl #[.int .i64 a0, .int .i64 4, .int .i64 10] rfl eqQ ?_; (with_reducible refine (spec_l1In.calls a0 4 10 true _ A7.out).mono ?_); rintro e w' ⟨rfl, ⟨nd, rfl⟩⟩; refine ⟨_, rfl, ?_⟩))); (go_ret); (exact ⟨rsQ, by repeat (first | exact Drawn0.refl _ | apply Drawn0.step)⟩))); (focus ((replace c8 := Bool.eq_false_iff.mpr c8); (subst c8); (have H1 : (some (-1)) = some r := by rw [if_neg (show ¬ (false = true) by decide)] at H; exact H); clear H; (have H := H1); clear H1; (obtain rfl := Option.some.inj H); (go_wp2_with (first | ((with_reducible refine gate_callee (f := 29) rfl ?_); refine goesL_ (some 18) rfl rfl Try.func29 (by kernel_rfl) rfl #[.int .i64 a0, .int .i64 4, .int .i64 10] rfl eqQ ?_; (with_reducible refine (spec_l1In.calls a0 4 10 false _ A7.out).mono ?_); rintro e w' ⟨rfl, ⟨nd, rfl⟩⟩; refine ⟨_, rfl, ?_⟩))); (go_ret); (exact ⟨rsQ, by repeat (first | exact Drawn0.refl _ | apply Drawn0.step)⟩)))))))

def spec_l12Arity.f (k : Nat) (a0 : Int) : Option (Int) := if a0 = 12 then (some 1) else (if a0 = 13 then (some 2) else (if a0 = 2 then (some (-1)) else ((spec_l1Arity.f k a0).bind fun t172 => (some t172))))
theorem spec_l12Arity.calls (k : Nat) (a0 : Int) (r : Int) (w : World) (h : spec_l12Arity.f k a0 = some r) :
  Calls Try.prog 40 #[.int .i64 a0] w fun e w' => e = .returned (.int .i64 r) ∧ Drawn0 w w' := by
 (have H : (if a0 = 12 then (some 1) else (if a0 = 13 then (some 2) else (if a0 = 2 then (some (-1)) else ((spec_l1Arity.f k a0).bind fun t172 => (some t172))))) = some r := h); clear h; (by_cases c2 : a0 = 12)
 (focus ((rw [if_pos c2] at H); (have c2b0 : (a0 == 12) = true := beq_iff_eq.mpr c2); (have c2b1 : (a0 != 12) = false := bne_eq_false_iff_eq.mpr c2); clear c2; (obtain rfl := Option.some.inj H); (go_enter Try.func40, Try.ntmps40); (go_wp2); (go_ret); (exact ⟨rsQ, by repeat (first | exact Drawn0.refl _ | apply Drawn0.step)⟩))); (focus ((rw [if_neg c2] at H); (have c2b0 : (a0 == 12) = false := beq_eq_false_iff_ne.mpr c2); (have c2b1 : (a0 != 12) = true := bne_iff_ne.mpr c2); (by_cases c3 : a0 = 13); (focus ((rw [if_pos c3] at H); (have c3b0 : (a0 == 13) = true := beq_iff_eq.mpr c3); (have c3b1 : (a0 != 13) = false := bne_eq_false_iff_eq.mpr c3); clear c3; (obtain rfl := Option.some.inj H); (go_enter Try.func40, Try.ntmps40); (go_wp2); (go_ret); (exact ⟨rsQ, by repeat (first | exact Drawn0.refl _ | apply Drawn0.step)⟩))); (focus ((rw [if_neg c3] at H); (have c3b0 : (a0 == 13) = false := beq_eq_false_iff_ne.mpr c3); (have c3b1 : (a0 != 13) = true := bne_iff_ne.mpr c3); (by_cases c4 : a0 = 2); (focus ((rw [if_pos c4] at H); (have c4b0 : (a0 == 2) = true := beq_iff_eq.mpr c4); (have c4b1 : (a0 != 2) = false := bne_eq_false_iff_eq.mpr c4); clear c4; (obtain rfl := Option.some.inj H); (go_enter Try.func40, Try.ntmps40); (go_wp2); (go_ret); (exact ⟨rsQ, by repeat (first | exact Drawn0.refl _ | apply Drawn0.step)⟩))); (focus ((rw [if_neg c4] at H); (have c4b0 : (a0 == 2) = false := beq_eq_false_iff_ne.mpr c4); (have c4b1 : (a0 != 2) = true := bne_iff_ne.mpr c4); (obtain ⟨t172, A50, H⟩ := Option.bind_eq_some_iff.mp H); (replace H : (some t172) = some r := H); (have A5 := Aside0.mk A50); clear A50; (obtain rfl := Option.some.inj H); (go_enter Try.func40, Try.ntmps40); (go_wp2_with (first | ((with_reducible refine gate_callee (f := 60) rfl ?_); refine goesL_ (some 11) rfl rfl Try.func60 (by kernel_rfl) rfl #[.int .i64 a0] rfl eqQ ?_; (with_reducible refine (spec_l1Arity.calls k a0 t172 _ A5.out).mono ?_); rintro e w' ⟨rfl, ⟨nd, rfl⟩⟩; refine ⟨_, rfl, ?_⟩))); (go_ret); (exact ⟨rsQ, by repeat (first | exact Drawn0.refl _ | apply Drawn0.step)⟩)))))))

end Go.Proofs.Ytpklnipnggocoaa.PFnExactRunFunc
