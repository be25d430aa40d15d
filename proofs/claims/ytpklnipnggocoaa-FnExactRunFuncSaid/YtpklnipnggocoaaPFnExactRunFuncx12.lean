/- Functions of the program and of the reference as plain Lean functions, and what their calls come to; partly printed by a program, partly by hand; no condition beyond what each theorem says. -/
import Derived.Test.YtpklnipnggocoaaPFnExactRunFuncx0
namespace Go.Proofs.Ytpklnipnggocoaa.PFnExactRunFunc
open Go.RowKit Go.Proofs.YtpklnipnggocoaaW.PrintWords Go.Proofs.YtpklnipnggocoaaW.PrintLast Go.Proofs.YtpklnipnggocoaaW.PrintMore
attribute [local go_sem] max2_int min2_int max_two min_two max_three min_three max_four min_four
set_option linter.unusedVariables false
set_option linter.unusedSimpArgs false
set_option maxHeartbeats 8000000
set_option maxRecDepth 100000

def spec_l12First.l0 : Nat → Int → List (S66) → Int → Int → Option (Int)
 | 0, _, _, _, _ => none
 | k + 1, x5, x13, x14, x15 => if x15 < x14 then (if 0 ≤ x15 then (if x15 < (x13.length : Int) then (spec_l12First.l0 k (wrap64 (x5 + (wrap64 (((rd_T66 x13 x15).f0) + (((rd_T66 x13 x15).f1).length : Int))))) x13 x14 (wrap64 (x15 + 1))) else (none)) else (none)) else (some x5)
def spec_l12First.f (k : Nat) (a0_0 : Int) (l0_1 : List (S66)) (a1 : Int) : Option (Int) := if 0 ≤ a1 then (if a1 ≤ (l0_1.length : Int) then ((some (l0_1.take (a1 : Int).toNat : List (S66))).bind fun y190 => (spec_l12First.l0 k a0_0 y190 (y190.length : Int) 0)) else (none)) else (none)
theorem spec_l12First.calls (k : Nat) (a0_0 : Int) (A0_1 : Option Addr) (c0_1 : Nat) (l0_1 : List (S66)) (a1 : Int) (r : Int) (w : World) (hr0_1 : Kd.C k66 w A0_1 l0_1.length l0_1) (hc0_1 : l0_1.length ≤ c0_1) (h : spec_l12First.f k a0_0 l0_1 a1 = some r) :
  Calls Try.prog 43 #[.agg #[.int .i64 a0_0, .slice A0_1 l0_1.length c0_1], .int .i64 a1] w fun e w' => e = .returned (.int .i64 r) ∧ Below w.heap.size w w' := by
 (have hu33 := Try.underlying33); (have hu66 := Try.underlying66); (have HR0_1 := Aside0.mk hr0_1); (have HC0_1 := Aside0.mk hc0_1); clear hr0_1 hc0_1; (have HB := Aside0.mk (Below.refl w.heap.size w)); (have H : (if 0 ≤ a1 then (if a1 ≤ (l0_1.length : Int) then ((some (l0_1.take (a1 : Int).toNat : List (S66))).bind fun y190 => (spec_l12First.l0 k a0_0 y190 (y190.length : Int) 0)) else (none)) else (none)) = some r := h); clear h; (by_cases c3 : 0 ≤ a1)
 ·rw [if_pos c3] at H
  (have c3b0 := eq_true c3); (have c3b1 := decide_eq_true c3); clear c3; (by_cases c4 : a1 ≤ (l0_1.length : Int))
  ·rw [if_pos c4] at H
   (have c4b0 := eq_true c4); (have c4b1 := decide_eq_true c4); clear c4; (obtain ⟨y190, hy190⟩ : ∃ y_ : List (S66), y_ = (l0_1.take (a1 : Int).toNat) := ⟨_, rfl⟩); (replace H : (spec_l12First.l0 k a0_0 y190 (y190.length : Int) 0) = some r := by first | (rw [hy190]; with_reducible exact H) | (have H2_ := (Option.bind_some _ _).symm.trans H; rw [hy190]; with_reducible exact H2_) | (have H2_ := (Option.bind_some _ _).symm.trans H; with_reducible exact H2_) | with_reducible exact H | (rw [hy190]; exact H) | exact H); (have Ny190 := Aside0.mk hy190); clear hy190; (have H' := Aside0.mk H); clear H; (go_enter Try.func43, Try.ntmps43); (go_wp2_with (first | ((with_reducible refine gate_dst (N := 2) rfl ?_); refine bxQ 2 #[.int .i64 a0_0, .slice A0_1 l0_1.length c0_1] 33 ?_; intro gb189 hg w5 hbox hb; have n0_ := Aside0.mk (below_step hbQ hb); have n1_ := Aside0.mk (hbox); have n2_ := Aside0.mk (gwQ (w := w) hg); have n3_ := Aside0.mk (gwQ (w := w) hg); clear HB; have HB := n0_; have BK189 := n1_; have GW189 := n2_; have GE189 := n3_; clear n0_ n1_ n2_ n3_ hb hbox hg; have hcz6_0 := bcQ BK189 0 (.int .i64 a0_0); have hcz6_1 := bcQ BK189 1 (.slice A0_1 l0_1.length c0_1); have hfz6_0 := blk_frozen BK189.out 0; have hfz6_1 := blk_frozen BK189.out 1; have q7 : (a1 : Int) ≤ ((l0_1.length : Int) : Int) := odQ; obtain ⟨i07, hi07, _, hsz7, _⟩ := info_parts info66; have hroom7 : l0_1.length ≤ c0_1 := HC0_1.out; have hC7 : Kd.C k66 _ A0_1 l0_1.length l0_1 := HR0_1.out; have hcut7 := cut_to (P := Try.prog) 31 66 .i64 Try.underlying31 hi07 A0_1 l0_1.length c0_1 a1 (odQ) q7 hroom7; have hr7 := Kd.C_take (m := (a1 : Int).toNat) hC7 (by omega); have hy7 : y190.length = (a1 : Int).toNat := (by rw [Ny190.out, List.length_take]; omega); rw [← Ny190.out] at hr7; rw [← hy7] at hcut7; have HR193 := Aside0.mk hr7; have HC193 := Aside0.mk (show y190.length ≤ c0_1 from by omega); clear hr7 hC7 hroom7 hi07 hsz7; have KY7 := Aside0.mk hy7; clear hy7; replace q7 := eq_true q7)))
   go_loopg [5, 15] k (fun kq v5 v15 w' => ∃ (x5_1 : Int) (x15_1 : Int), v5 = .int .i64 x5_1 ∧ v15 = .int .i64 x15_1 ∧ Aside0 (spec_l12First.l0 kq x5_1 y190 (y190.length : Int) x15_1 = some r) ∧ Aside0 (kq ≤ k) ∧ Aside0 (w'.heap[gb189]? = some (.cells #[.int .i64 a0_0, (.slice A0_1 l0_1.length c0_1)] 33 (0, 0))) ∧ Aside0 (Below w.heap.size w w'))
   case atStart => exact ⟨(a0_0), (0), rsQ, rsQ, H', ⟨Nat.le_refl _⟩, ⟨bkQ⟩, ⟨hbQ⟩⟩
   case round =>
    clear H'; (try clear p2); (try clear c3); (try clear c3b0); (try clear c3b1); (try clear c4); (try clear c4b0); (try clear c4b1); (try clear q7); (try clear hcz6_0); (try clear hcz6_1); (try clear hfz6_0); (try clear hfz6_1); (try clear q7); (obtain ⟨x5_1, x15_1, rfl, rfl, HA, HK1, BK189, HB⟩ := hrel)
    cases gk with
    | zero => exact absurd HA.out (by simp [spec_l12First.l0])
    | succ k1 =>
     (have H := HA.out); clear HA; (simp only [spec_l12First.l0] at H); (by_cases c8 : x15_1 < (y190.length : Int))
     ·rw [if_pos c8] at H
      (have c8b0 := decide_eq_true c8); clear c8; (by_cases c9 : 0 ≤ x15_1)
      ·rw [if_pos c9] at H
       (have c9b0 := decide_eq_true c9); clear c9; (by_cases c10 : x15_1 < (y190.length : Int))
       ·rw [if_pos c10] at H
        (have c10b0 := decide_eq_true c10); clear c10; (have H' := Aside0.mk H); clear H; (have p194 : 0 ≤ (x15_1 : Int) := odQ); (have q194 : x15_1 < (y190.length : Int) := odQ); (obtain ⟨ad194, A194_1, c194_1, A194_4, c194_4, e194, hx194_0, hx194_1, hx194_2, hx194_3, hx194_4, hl194_1, hi194_1, hl194_4, hi194_4⟩ := at_T66 HR193.out x15_1 p194 q194); (cases e194); (replace hx194_0 := clQ HB hx194_0); (replace hx194_1 := clQ HB hx194_1); (replace hx194_2 := clQ HB hx194_2); (replace hx194_3 := clQ HB hx194_3); (replace hx194_4 := clQ HB hx194_4); (have HR194_1 := Aside0.mk hi194_1); (have HC194_1 := Aside0.mk hl194_1); clear hi194_1 hl194_1; (have HR194_4 := Aside0.mk hi194_4); (have HC194_4 := Aside0.mk hl194_4); clear hi194_4 hl194_4; (replace p194 := eq_true p194); (replace q194 := eq_true q194); (go_wp2_with (first | ((with_reducible refine gate_dst (N := 7) rfl ?_); refine bxQ 7 #[.int .i64 0, .slice none 0 0, .int .i64 0, .int .i64 0, .slice none 0 0] 66 ?_; intro gb195 hg w11 hbox hb; have n0_ := Aside0.mk (blk_below (g := gb189) (o := .cells #[.int .i64 a0_0, .slice (some ad194) l0_1.length c0_1] 33 (0, 0)) bkQ hb); have n1_ := Aside0.mk (below_step hbQ hb); have n2_ := Aside0.mk (hbox); have n3_ := Aside0.mk (gwQ (w := w) hg); have n4_ := Aside0.mk (gwQ (w := w) hg); have n5_ := Aside0.mk ((by rw [hg]; exact Nat.ne_of_lt (blk_lt (g := gb189) (o := .cells #[.int .i64 a0_0, .slice (some ad194) l0_1.length c0_1] 33 (0, 0)) bkQ) : gb189 ≠ gb195)); have n6_ := Aside0.mk ((by rw [hg]; exact Nat.ne_of_gt (blk_lt (g := gb189) (o := .cells #[.int .i64 a0_0, .slice (some ad194) l0_1.length c0_1] 33 (0, 0)) bkQ) : gb195 ≠ gb189)); clear BK189 HB; have BK189 := n0_; have HB := n1_; have BK195 := n2_; have GW195 := n3_; have GE195 := n4_; have NB189_195 := n5_; have NB195_189 := n6_; clear n0_ n1_ n2_ n3_ n4_ n5_ n6_ hb hbox hg; have hnb12 := NB195_189.out; have hnc12 := NB189_195.out; have hcz13_0 := bcQ BK195 0 (.int .i64 0); have hcz13_1 := bcQ BK195 1 (.slice none 0 0); have hcz13_2 := bcQ BK195 2 (.int .i64 0); have hcz13_3 := bcQ BK195 3 (.int .i64 0); have hcz13_4 := bcQ BK195 4 (.slice none 0 0); have hfz13_0 := blk_frozen BK195.out 0; have hfz13_1 := blk_frozen BK195.out 1; have hfz13_2 := blk_frozen BK195.out 2; have hfz13_3 := blk_frozen BK195.out 3; have hfz13_4 := blk_frozen BK195.out 4))); (go_roundg k1)
        case measure => have := HK1.out; omega
        case rel => exact ⟨(wrap64 (x5_1 + (wrap64 (((rd_T66 y190 x15_1).f0) + (((rd_T66 y190 x15_1).f1).length : Int))))), (wrap64 (x15_1 + 1)), rsQ, rsQ, H', ⟨by have := HK1.out; omega⟩, ⟨by refine blk_far ?_ NB189_195.out _; refine blk_far ?_ NB189_195.out _; refine blk_far ?_ NB189_195.out _; refine blk_far ?_ NB189_195.out _; refine blk_far ?_ NB189_195.out _; (with_reducible repeat (first | refine blk_drewN ?_ _ | refine blk_drew ?_ | refine blk_alloc ?_ _)); exact BK189.out⟩, ⟨hbQ⟩⟩
       (focus ((rw [if_neg c10] at H); (exact absurd H (by simp))))
      (focus ((rw [if_neg c9] at H); (exact absurd H (by simp))))
     (focus ((rw [if_neg c8] at H); (have c8b0 := decide_eq_false c8); clear c8; (obtain rfl := Option.some.inj H); (go_wp2); (go_ret); (exact ⟨rtQ, hbQ⟩)))
  (focus ((rw [if_neg c4] at H); (exact absurd H (by simp))))
 (focus ((rw [if_neg c3] at H); (exact absurd H (by simp))))

-- NOT PRINTED: function 48 (spec_l12Run_take)

-- NOT PRINTED: function 47 (spec_l12Run_do)

-- NOT PRINTED: function 30 (spec_l12Do)

end Go.Proofs.Ytpklnipnggocoaa.PFnExactRunFunc
