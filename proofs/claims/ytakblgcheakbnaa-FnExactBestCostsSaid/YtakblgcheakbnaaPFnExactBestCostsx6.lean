/- Functions of the program and of the reference as plain Lean functions, and what their calls come to; partly printed by a program, partly by hand; no condition beyond what each theorem says. -/
import Derived.Test.YtakblgcheakbnaaPFnExactBestCostsx0
namespace Go.Proofs.Ytakblgcheakbnaa.PFnExactBestCosts
open Go.RowKit Go.Proofs.YtakblgcheakbnaaW.PrintWords Go.Proofs.YtakblgcheakbnaaW.PrintLast Go.Proofs.YtakblgcheakbnaaW.PrintMore
attribute [local go_sem] max2_int min2_int max_two min_two max_three min_three max_four min_four   -- for this text's walks alone
set_option linter.unusedVariables false
set_option linter.unusedSimpArgs false

/-! ### spec_l6Classes: function 107 -/
def spec_l6Classes.l0 : Nat → List Int → List Int → Int → Int → Option (List Int)
  | 0, _, _, _, _ => none
  | k + 1, x3, x7, x8, x9 => if x9 < x8 then (if 0 ≤ x9 then (if x9 < (x7.length : Int) then (if x9 = (rd x7 x9) then (if x3.length < 17592186044416 then (spec_l6Classes.l0 k (x3 ++ [x9]) x7 x8 (wrap64 (x9 + 1))) else (none)) else (spec_l6Classes.l0 k x3 x7 x8 (wrap64 (x9 + 1)))) else (none)) else (none)) else (some x3)
def spec_l6Classes.f (k : Nat) (l0_0 : List (S114)) (l0_1 : List Int) : Option (List Int) := spec_l6Classes.l0 k ([] : List Int) l0_1 (l0_1.length : Int) 0
set_option maxHeartbeats 8000000 in
set_option maxRecDepth 100000 in
theorem spec_l6Classes.calls (k : Nat) (A0_0 : Option Addr) (c0_0 : Nat) (l0_0 : List (S114)) (A0_1 : Option Addr) (c0_1 : Nat) (l0_1 : List Int) (r : List Int) (w : World) (hr0_0 : Kd.C k114 w A0_0 l0_0.length l0_0) (hc0_0 : l0_0.length ≤ c0_0) (hr0_1 : Kd.C (Kd.int .i64) w A0_1 l0_1.length l0_1) (hc0_1 : l0_1.length ≤ c0_1) (h : spec_l6Classes.f k l0_0 l0_1 = some r) :
    Calls Try.prog 107 #[.agg #[.slice A0_0 l0_0.length c0_0, .slice A0_1 l0_1.length c0_1]] w fun e w' => ∃ v0_ : Value, e = .returned (v0_) ∧ Kd.R (Kd.int .i64) 3 w' w.heap.size (fun _ => True) v0_ r ∧ Below w.heap.size w w' := by
  (have hu34 := Try.underlying34); (have HR0_0 := Aside0.mk hr0_0); (have HC0_0 := Aside0.mk hc0_0); (clear hr0_0 hc0_0); (have HR0_1 := Aside0.mk hr0_1); (have HC0_1 := Aside0.mk hc0_1); (clear hr0_1 hc0_1); (have HB := Aside0.mk (Below.refl w.heap.size w)); (have H : (spec_l6Classes.l0 k ([] : List Int) l0_1 (l0_1.length : Int) 0) = some r := h); (clear h); (have H' := Aside0.mk H); (clear H); (go_enter Try.func107, Try.ntmps107); (go_wp2_with (first | ((with_reducible refine gate_dst (N := 1) rfl ?_); refine box_event rfl (N := 1) rfl (cs := #[.slice A0_0 l0_0.length c0_0, .slice A0_1 l0_1.length c0_1]) (t := 34) (by first | (go_simp; done) | (go_simp; rfl)) ?_; intro gb180 hg w2 hbox hb; have n0_ := Aside0.mk (below_step hbQ hb); have n1_ := Aside0.mk (hbox); have n2_ := Aside0.mk (gwQ (w := w) hg); have n3_ := Aside0.mk (gwQ (w := w) hg); clear HB; have HB := n0_; have BK180 := n1_; have GW180 := n2_; have GE180 := n3_; clear n0_ n1_ n2_ n3_; clear hb hbox hg; have hcz3_0 : w2.cell? ⟨gb180, 0, none⟩ = some (.slice A0_0 l0_0.length c0_0) := (blk_cell BK180.out 0).trans rfl; have hcz3_1 : w2.cell? ⟨gb180, 1, none⟩ = some (.slice A0_1 l0_1.length c0_1) := (blk_cell BK180.out 1).trans rfl; have hfz3_0 := blk_frozen BK180.out 0; have hfz3_1 := blk_frozen BK180.out 1)))
  go_loopg [3, 9] k (fun kq v3 v9 w' => ∃ (x3_1 : List Int) (x9_1 : Int), v9 = .int .i64 x9_1 ∧ Aside0 (spec_l6Classes.l0 kq x3_1 l0_1 (l0_1.length : Int) x9_1 = some r) ∧ Aside0 (kq ≤ k) ∧ Aside0 (Kd.R (Kd.int .i64) 3 w' w.heap.size (fun _ => True) v3 x3_1) ∧ Aside0 (w'.heap[gb180]? = some (.cells #[(.slice A0_0 l0_0.length c0_0), (.slice A0_1 l0_1.length c0_1)] 34 (0, 0))) ∧ Aside0 (Below w.heap.size w w'))
  case atStart => exact ⟨(([] : List Int)), (0), (by first | rfl | (simp; done) | (simp [*]; done)), H', ⟨Nat.le_refl _⟩, ⟨by first | exact Kd.R_nil _ _ _ _ _ | exact Kd.N_nil _ _ _ _ _ | exact Kd.V_nil _ _ _ _ _ | exact Kd.Q_nil _ _ _ _ _ | exact Kd.S_nil _ _ _ _ _⟩, ⟨bkQ⟩, ⟨hbQ⟩⟩
  case round =>
    (clear H'); (try clear c1); (try clear p2); (try clear hcz3_0); (try clear hcz3_1); (try clear hfz3_0); (try clear hfz3_1); (obtain ⟨x3_1, x9_1, rfl, HA, HK1, HO_3, BK180, HB⟩ := hrel)
    cases gk with
    | zero => exact absurd HA.out (by simp [spec_l6Classes.l0])
    | succ k1 =>
      (have H := HA.out); (clear HA); (simp only [spec_l6Classes.l0] at H); (by_cases c4 : x9_1 < (l0_1.length : Int))
      · rw [if_pos c4] at H
        (have c4b0 : decide (x9_1 < (l0_1.length : Int)) = true := decide_eq_true c4); (clear c4); (by_cases c5 : 0 ≤ x9_1)
        · rw [if_pos c5] at H
          (have c5b0 : decide (0 ≤ x9_1) = true := decide_eq_true c5); (clear c5); (by_cases c6 : x9_1 < (l0_1.length : Int))
          · rw [if_pos c6] at H
            (have c6b0 : decide (x9_1 < (l0_1.length : Int)) = true := decide_eq_true c6); (clear c6); (by_cases c7 : x9_1 = (rd l0_1 x9_1))
            · rw [if_pos c7] at H
              (have c7b0 : (x9_1 == (rd l0_1 x9_1)) = true := beq_iff_eq.mpr c7); (have c7b1 : (x9_1 != (rd l0_1 x9_1)) = false := bne_eq_false_iff_eq.mpr c7); (clear c7); (by_cases c8 : x3_1.length < 17592186044416)
              · rw [if_pos c8] at H
                (have LMc8 := Aside0.mk c8); (clear c8); (obtain ⟨y182, hy182⟩ : ∃ y_ : List Int, y_ = (x3_1 ++ [x9_1]) := ⟨_, rfl⟩); (replace H : (spec_l6Classes.l0 k1 y182 l0_1 (l0_1.length : Int) (wrap64 (x9_1 + 1))) = some r := by first | (rw [hy182]; with_reducible exact H) | (have H2_ := (Option.bind_some _ _).symm.trans H; rw [hy182]; with_reducible exact H2_) | (have H2_ := (Option.bind_some _ _).symm.trans H; with_reducible exact H2_) | with_reducible exact H | (rw [hy182]; exact H) | exact H); (have Ny182 := Aside0.mk hy182); (clear hy182); (have H' := Aside0.mk H); (clear H); (have p181 : 0 ≤ (x9_1 : Int) := odQ); (have q181 : x9_1 < (l0_1.length : Int) := odQ); (obtain ⟨ad181, e181, hx181_0⟩ := Kd.at_int HR0_1.out x9_1 p181 q181); (cases e181); (replace hx181_0 := (HB.out.cell (World.block_lt_of_cell? w _ hx181_0)).trans hx181_0); (replace p181 := eq_true p181); (replace q181 := eq_true q181); (go_wp2_with (first | ((with_reducible refine gate_builtin (b := .append) (xs := #[.tmp 17, .tmp 19]) rfl ?_); at_builtin; refine Kd.R_append (Kd.int .i64) (w0 := w) w.heap.size rfl (.tmp 17) (.tmp 19) 23 3 (.int .i64 0) 8 rfl Try.underlying23 info3 rfl (by decide) (by omega) u3 x3_1 x9_1 [.int .i64 x9_1] (fun _ => True) (fun _ => False) rfl rfl ?aP (fun _ hk => hk.elim) ?aF ?aO ?aB ?aS ?aL ?_; (case aP => exact rfl); (case aB => exact hbQ); (case aF => exact (fun _ _ => trivial)); (case aO => exact (by (with_reducible repeat (first | apply Kd.R_alloc | apply Kd.R_drewN | apply Kd.R_drew)); exact HO_3.out)); (case aS => exact (below_size hbQ)); (case aL => have := LMc8.out; omega); intro v183 w9 ho hb hg hat; rw [← Ny182.out] at ho; have n0_ := Aside0.mk (blk_grown (g := gb180) (o := .cells #[.slice A0_0 l0_0.length c0_0, .slice (some ad181) l0_1.length c0_1] 34 (0, 0)) bkQ hg (Kd.R_ne HO_3.out BK180.out (by decide))); have n1_ := Aside0.mk (hb); have n2_ := Aside0.mk (ho); clear BK180; clear HB; clear HO_3; have BK180 := n0_; have HB := n1_; have HO184 := n2_; clear n0_ n1_ n2_; clear ho hb hg hat))); (go_roundg k1)
                case measure => have := HK1.out; omega
                case rel => exact ⟨(y182), (wrap64 (x9_1 + 1)), (by first | rfl | (simp; done) | (simp [*]; done)), H', ⟨by have := HK1.out; omega⟩, ⟨by (with_reducible repeat (first | apply Kd.R_alloc | apply Kd.R_drewN | apply Kd.R_drew)); exact HO184.out⟩, ⟨bkQ⟩, ⟨hbQ⟩⟩
              (focus ((rw [if_neg c8] at H); (exact absurd H (by simp))))
            · rw [if_neg c7] at H
              (have c7b0 : (x9_1 == (rd l0_1 x9_1)) = false := beq_eq_false_iff_ne.mpr c7); (have c7b1 : (x9_1 != (rd l0_1 x9_1)) = true := bne_iff_ne.mpr c7); (have H' := Aside0.mk H); (clear H); (have p181 : 0 ≤ (x9_1 : Int) := odQ); (have q181 : x9_1 < (l0_1.length : Int) := odQ); (obtain ⟨ad181, e181, hx181_0⟩ := Kd.at_int HR0_1.out x9_1 p181 q181); (cases e181); (replace hx181_0 := (HB.out.cell (World.block_lt_of_cell? w _ hx181_0)).trans hx181_0); (replace p181 := eq_true p181); (replace q181 := eq_true q181); (go_wp2); (go_roundg k1)
              case measure => have := HK1.out; omega
              case rel => exact ⟨(x3_1), (wrap64 (x9_1 + 1)), (by first | rfl | (simp; done) | (simp [*]; done)), H', ⟨by have := HK1.out; omega⟩, ⟨by (with_reducible repeat (first | apply Kd.R_alloc | apply Kd.R_drewN | apply Kd.R_drew)); exact HO_3.out⟩, ⟨bkQ⟩, ⟨hbQ⟩⟩
          (focus ((rw [if_neg c6] at H); (exact absurd H (by simp))))
        (focus ((rw [if_neg c5] at H); (exact absurd H (by simp))))
      (focus ((rw [if_neg c4] at H); (have c4b0 : decide (x9_1 < (l0_1.length : Int)) = false := decide_eq_false c4); (clear c4); (obtain rfl := Option.some.inj H); (go_wp2); (go_ret); (exact ⟨_, by first | rfl | (simp [errW_none, errW_some] <;> rfl) | (simp [*, errW_none, errW_some] <;> rfl), by (with_reducible repeat (first | apply Kd.R_alloc | apply Kd.R_drewN | apply Kd.R_drew)); exact HO_3.out, hbQ⟩)))

/-! ### spec_l10Op: function 168 -/
def spec_l10Op.j0 : Nat → Int → Bool → Option (Int)
  | 0, _, _ => none
  | k + 1, x3, x4 => if x4 = true then (some 1) else (if x3 = 11 then (some 3) else (if x3 = 6 then (some 4) else (if x3 = 8 then (some 20) else (some 2))))
def spec_l10Op.f (k : Nat) (a0 : Int) : Option (Int) := if a0 = 1 then (spec_l10Op.j0 k a0 (a0 == 1)) else (spec_l10Op.j0 k a0 (a0 == 2))
set_option maxHeartbeats 8000000 in
set_option maxRecDepth 100000 in
theorem spec_l10Op.calls (k : Nat) (a0 : Int) (r : Int) (w : World) (h : spec_l10Op.f k a0 = some r) :
    Calls Try.prog 168 #[.int .i64 a0] w fun e w' => e = .returned (.int .i64 r) ∧ Drawn0 w w' := by
  (have H : (if a0 = 1 then (spec_l10Op.j0 k a0 (a0 == 1)) else (spec_l10Op.j0 k a0 (a0 == 2))) = some r := h); (clear h); (have HC2 := Aside0.mk H); (clear H); (go_enter Try.func168, Try.ntmps168)
  go_upto_if 4 with (fail)
  go_cut [4] (fun v4 wc => ∃ (kq : Nat) (x4_1 : Bool), v4 = .bool x4_1 ∧ Aside0 (spec_l10Op.j0 kq a0 x4_1 = some r) ∧ Aside0 (kq ≤ k) ∧ Drawn0 w wc)
  case first =>
    (have H := HC2.out); (clear HC2); (by_cases c3 : a0 = 1)
    · rw [if_pos c3] at H
      (have c3b0 : (a0 == 1) = true := beq_iff_eq.mpr c3); (have c3b1 : (a0 != 1) = false := bne_eq_false_iff_eq.mpr c3); (clear c3); (first | rw [c3b0] | (simp only [i64_w, i32_w]; rw [c3b0]) | skip); (have H' := Aside0.mk H); (clear H); (go_wp2)
      go_meet
      case rel => exact ⟨_, ((a0 == 1)), (by first | rfl | (simp; done) | (simp [*]; done)), H', ⟨by first | omega | exact Nat.le_refl _⟩, by repeat (first | exact Drawn0.refl _ | apply Drawn0.step)⟩
    · rw [if_neg c3] at H
      (have c3b0 : (a0 == 1) = false := beq_eq_false_iff_ne.mpr c3); (have c3b1 : (a0 != 1) = true := bne_iff_ne.mpr c3); (first | rw [c3b0] | (simp only [i64_w, i32_w]; rw [c3b0]) | skip); (have H' := Aside0.mk H); (clear H); (go_wp2)
      go_meet
      case rel => exact ⟨_, ((a0 == 2)), (by first | rfl | (simp; done) | (simp [*]; done)), H', ⟨by first | omega | exact Nat.le_refl _⟩, by repeat (first | exact Drawn0.refl _ | apply Drawn0.step)⟩
  case rest =>
    (clear HC2); (try clear c1); (try clear p2); (try clear c3); (try clear c3b0); (try clear c3b1); (obtain ⟨kq, x4_1, rfl, HA, HJ1, ⟨mc1, rfl⟩⟩ := hcut)
    cases kq with
    | zero => exact absurd HA.out (by simp [spec_l10Op.j0])
    | succ kj1 =>
      (have H := HA.out); (clear HA); (simp only [spec_l10Op.j0] at H); (by_cases c4 : x4_1 = true)
      (focus ((subst c4); (have H1 : (some 1) = some r := by rw [if_pos rfl] at H; exact H); (clear H); (have H := H1); (clear H1); (obtain rfl := Option.some.inj H); (go_wp2); (go_ret); (exact ⟨by first | rfl | (simp; done) | (simp [*]; done), by repeat (first | exact Drawn0.refl _ | apply Drawn0.step)⟩))); (focus ((replace c4 := Bool.eq_false_iff.mpr c4); (subst c4); (have H1 : (if a0 = 11 then (some 3) else (if a0 = 6 then (some 4) else (if a0 = 8 then (some 20) else (some 2)))) = some r := by rw [if_neg (show ¬ (false = true) by decide)] at H; exact H); (clear H); (have H := H1); (clear H1); (by_cases c5 : a0 = 11); (focus ((rw [if_pos c5] at H); (have c5b0 : (a0 == 11) = true := beq_iff_eq.mpr c5); (have c5b1 : (a0 != 11) = false := bne_eq_false_iff_eq.mpr c5); (clear c5); (obtain rfl := Option.some.inj H); (go_wp2); (go_ret); (exact ⟨by first | rfl | (simp; done) | (simp [*]; done), by repeat (first | exact Drawn0.refl _ | apply Drawn0.step)⟩))); (focus ((rw [if_neg c5] at H); (have c5b0 : (a0 == 11) = false := beq_eq_false_iff_ne.mpr c5); (have c5b1 : (a0 != 11) = true := bne_iff_ne.mpr c5); (by_cases c6 : a0 = 6); (focus ((rw [if_pos c6] at H); (have c6b0 : (a0 == 6) = true := beq_iff_eq.mpr c6); (have c6b1 : (a0 != 6) = false := bne_eq_false_iff_eq.mpr c6); (clear c6); (obtain rfl := Option.some.inj H); (go_wp2); (go_ret); (exact ⟨by first | rfl | (simp; done) | (simp [*]; done), by repeat (first | exact Drawn0.refl _ | apply Drawn0.step)⟩))); (focus ((rw [if_neg c6] at H); (have c6b0 : (a0 == 6) = false := beq_eq_false_iff_ne.mpr c6); (have c6b1 : (a0 != 6) = true := bne_iff_ne.mpr c6); (by_cases c7 : a0 = 8); (focus ((rw [if_pos c7] at H); (have c7b0 : (a0 == 8) = true := beq_iff_eq.mpr c7); (have c7b1 : (a0 != 8) = false := bne_eq_false_iff_eq.mpr c7); (clear c7); (obtain rfl := Option.some.inj H); (go_wp2); (go_ret); (exact ⟨by first | rfl | (simp; done) | (simp [*]; done), by repeat (first | exact Drawn0.refl _ | apply Drawn0.step)⟩))); (focus ((rw [if_neg c7] at H); (have c7b0 : (a0 == 8) = false := beq_eq_false_iff_ne.mpr c7); (have c7b1 : (a0 != 8) = true := bne_iff_ne.mpr c7); (obtain rfl := Option.some.inj H); (go_wp2); (go_ret); (exact ⟨by first | rfl | (simp; done) | (simp [*]; done), by repeat (first | exact Drawn0.refl _ | apply Drawn0.step)⟩)))))))))

/-! ### spec_l10Node: function 158 -/
def spec_l10Node.l0 : Nat → List Int → Int → List Int → Int → Int → Option (Int)
  | 0, _, _, _, _, _ => none
  | k + 1, x1, x5, x12, x13, x14 => if x14 < x13 then (if 0 ≤ x14 then (if x14 < (x12.length : Int) then (if 0 ≤ (rd x12 x14) then (if (rd x12 x14) < (x1.length : Int) then (if (rd x1 (rd x12 x14)) < 0 then (some (-1)) else (if (wrap64 (x5 + (rd x1 (rd x12 x14)))) > 1125899906842624 then (spec_l10Node.l0 k x1 1125899906842624 x12 x13 (wrap64 (x14 + 1))) else (spec_l10Node.l0 k x1 (wrap64 (x5 + (rd x1 (rd x12 x14)))) x12 x13 (wrap64 (x14 + 1))))) else (none)) else (none)) else (none)) else (none)) else (some x5)
def spec_l10Node.f (k : Nat) (a0_0 : Int) (a0_1 : Int) (l0_2 : List Int) (l1 : List Int) : Option (Int) := (spec_l10Op.f k a0_0).bind fun t186 => (spec_l10Node.l0 k l1 t186 l0_2 (l0_2.length : Int) 0)
set_option maxHeartbeats 8000000 in
set_option maxRecDepth 100000 in
theorem spec_l10Node.calls (k : Nat) (a0_0 : Int) (a0_1 : Int) (A0_2 : Option Addr) (c0_2 : Nat) (l0_2 : List Int) (A1 : Option Addr) (c1 : Nat) (l1 : List Int) (r : Int) (w : World) (hr0_2 : Kd.C (Kd.int .i64) w A0_2 l0_2.length l0_2) (hc0_2 : l0_2.length ≤ c0_2) (hr1 : Kd.C (Kd.int .i64) w A1 l1.length l1) (hc1 : l1.length ≤ c1) (h : spec_l10Node.f k a0_0 a0_1 l0_2 l1 = some r) :
    Calls Try.prog 158 #[.agg #[.int .i64 a0_0, .int .i64 a0_1, .slice A0_2 l0_2.length c0_2], .slice A1 l1.length c1] w fun e w' => e = .returned (.int .i64 r) ∧ Below w.heap.size w w' := by
  (have hu114 := Try.underlying114); (have HR0_2 := Aside0.mk hr0_2); (have HC0_2 := Aside0.mk hc0_2); (clear hr0_2 hc0_2); (have HR1 := Aside0.mk hr1); (have HC1 := Aside0.mk hc1); (clear hr1 hc1); (have HB := Aside0.mk (Below.refl w.heap.size w)); (have H : ((spec_l10Op.f k a0_0).bind fun t186 => (spec_l10Node.l0 k l1 t186 l0_2 (l0_2.length : Int) 0)) = some r := h); (clear h); (replace H := Option.bind_eq_some_iff.mp H); (obtain ⟨t186, A30, H⟩ := H); (replace H : (spec_l10Node.l0 k l1 t186 l0_2 (l0_2.length : Int) 0) = some r := H); (have A3 := Aside0.mk A30); (clear A30); (have H' := Aside0.mk H); (clear H); (go_enter Try.func158, Try.ntmps158); (go_wp2_with (first | ((with_reducible refine gate_dst (N := 2) rfl ?_); refine box_event rfl (N := 2) rfl (cs := #[.int .i64 a0_0, .int .i64 a0_1, .slice A0_2 l0_2.length c0_2]) (t := 114) (by first | (go_simp; done) | (go_simp; rfl)) ?_; intro gb185 hg w4 hbox hb; have n0_ := Aside0.mk (below_step hbQ hb); have n1_ := Aside0.mk (hbox); have n2_ := Aside0.mk (gwQ (w := w) hg); have n3_ := Aside0.mk (gwQ (w := w) hg); clear HB; have HB := n0_; have BK185 := n1_; have GW185 := n2_; have GE185 := n3_; clear n0_ n1_ n2_ n3_; clear hb hbox hg; have hcz5_0 : w4.cell? ⟨gb185, 0, none⟩ = some (.int .i64 a0_0) := (blk_cell BK185.out 0).trans rfl; have hcz5_1 : w4.cell? ⟨gb185, 1, none⟩ = some (.int .i64 a0_1) := (blk_cell BK185.out 1).trans rfl; have hcz5_2 : w4.cell? ⟨gb185, 2, none⟩ = some (.slice A0_2 l0_2.length c0_2) := (blk_cell BK185.out 2).trans rfl; have hfz5_0 := blk_frozen BK185.out 0; have hfz5_1 := blk_frozen BK185.out 1; have hfz5_2 := blk_frozen BK185.out 2) | ((with_reducible refine gate_callee (f := 168) rfl ?_); refine goesL_ (some 10) rfl rfl Try.func168 (by kernel_rfl) rfl #[.int .i64 a0_0] rfl eqQ ?_; (with_reducible refine (spec_l10Op.calls k a0_0 t186 _ A3.out).mono ?_); rintro e w' ⟨rfl, ⟨nd, rfl⟩⟩; refine ⟨_, rfl, ?_⟩)))
  go_loopg [5, 14] k (fun kq v5 v14 w' => ∃ (x5_1 : Int) (x14_1 : Int), v5 = .int .i64 x5_1 ∧ v14 = .int .i64 x14_1 ∧ Aside0 (spec_l10Node.l0 kq l1 x5_1 l0_2 (l0_2.length : Int) x14_1 = some r) ∧ Aside0 (kq ≤ k) ∧ Aside0 (w'.heap[gb185]? = some (.cells #[.int .i64 a0_0, .int .i64 a0_1, (.slice A0_2 l0_2.length c0_2)] 114 (0, 0))) ∧ Aside0 (Below w.heap.size w w'))
  case atStart => exact ⟨(t186), (0), (by first | rfl | (simp; done) | (simp [*]; done)), (by first | rfl | (simp; done) | (simp [*]; done)), H', ⟨Nat.le_refl _⟩, ⟨bkQ⟩, ⟨hbQ⟩⟩
  case round =>
    (clear H'); (try clear c1); (try clear p2); (try clear hcz5_0); (try clear hcz5_1); (try clear hcz5_2); (try clear hfz5_0); (try clear hfz5_1); (try clear hfz5_2); (obtain ⟨x5_1, x14_1, rfl, rfl, HA, HK1, BK185, HB⟩ := hrel)
    cases gk with
    | zero => exact absurd HA.out (by simp [spec_l10Node.l0])
    | succ k1 =>
      (have H := HA.out); (clear HA); (simp only [spec_l10Node.l0] at H); (by_cases c6 : x14_1 < (l0_2.length : Int))
      · rw [if_pos c6] at H
        (have c6b0 : decide (x14_1 < (l0_2.length : Int)) = true := decide_eq_true c6); (clear c6); (by_cases c7 : 0 ≤ x14_1)
        · rw [if_pos c7] at H
          (have c7b0 : decide (0 ≤ x14_1) = true := decide_eq_true c7); (clear c7); (by_cases c8 : x14_1 < (l0_2.length : Int))
          · rw [if_pos c8] at H
            (have c8b0 : decide (x14_1 < (l0_2.length : Int)) = true := decide_eq_true c8); (clear c8); (by_cases c9 : 0 ≤ (rd l0_2 x14_1))
            · rw [if_pos c9] at H
              (have c9b0 : decide (0 ≤ (rd l0_2 x14_1)) = true := decide_eq_true c9); (clear c9); (by_cases c10 : (rd l0_2 x14_1) < (l1.length : Int))
              · rw [if_pos c10] at H
                (have c10b0 : decide ((rd l0_2 x14_1) < (l1.length : Int)) = true := decide_eq_true c10); (clear c10); (by_cases c11 : (rd l1 (rd l0_2 x14_1)) < 0)
                (focus ((rw [if_pos c11] at H); (have c11b0 : decide ((rd l1 (rd l0_2 x14_1)) < 0) = true := decide_eq_true c11); (clear c11); (obtain rfl := Option.some.inj H); (have p187 : 0 ≤ (x14_1 : Int) := odQ); (have q187 : x14_1 < (l0_2.length : Int) := odQ); (obtain ⟨ad187, e187, hx187_0⟩ := Kd.at_int HR0_2.out x14_1 p187 q187); (cases e187); (replace hx187_0 := (HB.out.cell (World.block_lt_of_cell? w _ hx187_0)).trans hx187_0); (replace p187 := eq_true p187); (replace q187 := eq_true q187); (have p188 : 0 ≤ ((rd l0_2 x14_1) : Int) := odQ); (have q188 : (rd l0_2 x14_1) < (l1.length : Int) := odQ); (obtain ⟨ad188, e188, hx188_0⟩ := Kd.at_int HR1.out (rd l0_2 x14_1) p188 q188); (cases e188); (replace hx188_0 := (HB.out.cell (World.block_lt_of_cell? w _ hx188_0)).trans hx188_0); (replace p188 := eq_true p188); (replace q188 := eq_true q188); (go_wp2); (go_ret); (exact ⟨by first | rfl | (simp [errW_none, errW_some] <;> rfl) | (simp [*, errW_none, errW_some] <;> rfl), hbQ⟩)))
                · rw [if_neg c11] at H
                  (have c11b0 : decide ((rd l1 (rd l0_2 x14_1)) < 0) = false := decide_eq_false c11); (clear c11); (by_cases c12 : (wrap64 (x5_1 + (rd l1 (rd l0_2 x14_1)))) > 1125899906842624)
                  · rw [if_pos c12] at H
                    (have c12b0 : decide (1125899906842624 < (wrap64 (x5_1 + (rd l1 (rd l0_2 x14_1))))) = true := decide_eq_true c12); (clear c12); (have H' := Aside0.mk H); (clear H); (have p187 : 0 ≤ (x14_1 : Int) := odQ); (have q187 : x14_1 < (l0_2.length : Int) := odQ); (obtain ⟨ad187, e187, hx187_0⟩ := Kd.at_int HR0_2.out x14_1 p187 q187); (cases e187); (replace hx187_0 := (HB.out.cell (World.block_lt_of_cell? w _ hx187_0)).trans hx187_0); (replace p187 := eq_true p187); (replace q187 := eq_true q187); (have p188 : 0 ≤ ((rd l0_2 x14_1) : Int) := odQ); (have q188 : (rd l0_2 x14_1) < (l1.length : Int) := odQ); (obtain ⟨ad188, e188, hx188_0⟩ := Kd.at_int HR1.out (rd l0_2 x14_1) p188 q188); (cases e188); (replace hx188_0 := (HB.out.cell (World.block_lt_of_cell? w _ hx188_0)).trans hx188_0); (replace p188 := eq_true p188); (replace q188 := eq_true q188); (have p189 : 0 ≤ ((rd l0_2 x14_1) : Int) := odQ); (have q189 : (rd l0_2 x14_1) < (l1.length : Int) := odQ); (obtain ⟨ad189, e189, hx189_0⟩ := Kd.at_int HR1.out (rd l0_2 x14_1) p189 q189); (obtain rfl : ad188 = ad189 := (by injection e189)); (replace hx189_0 := (HB.out.cell (World.block_lt_of_cell? w _ hx189_0)).trans hx189_0); (replace p189 := eq_true p189); (replace q189 := eq_true q189); (go_wp2); (go_roundg k1)
                    case measure => have := HK1.out; omega
                    case rel => exact ⟨(1125899906842624), (wrap64 (x14_1 + 1)), (by first | rfl | (simp; done) | (simp [*]; done)), (by first | rfl | (simp; done) | (simp [*]; done)), H', ⟨by have := HK1.out; omega⟩, ⟨bkQ⟩, ⟨hbQ⟩⟩
                  · rw [if_neg c12] at H
                    (have c12b0 : decide (1125899906842624 < (wrap64 (x5_1 + (rd l1 (rd l0_2 x14_1))))) = false := decide_eq_false c12); (clear c12); (have H' := Aside0.mk H); (clear H); (have p187 : 0 ≤ (x14_1 : Int) := odQ); (have q187 : x14_1 < (l0_2.length : Int) := odQ); (obtain ⟨ad187, e187, hx187_0⟩ := Kd.at_int HR0_2.out x14_1 p187 q187); (cases e187); (replace hx187_0 := (HB.out.cell (World.block_lt_of_cell? w _ hx187_0)).trans hx187_0); (replace p187 := eq_true p187); (replace q187 := eq_true q187); (have p188 : 0 ≤ ((rd l0_2 x14_1) : Int) := odQ); (have q188 : (rd l0_2 x14_1) < (l1.length : Int) := odQ); (obtain ⟨ad188, e188, hx188_0⟩ := Kd.at_int HR1.out (rd l0_2 x14_1) p188 q188); (cases e188); (replace hx188_0 := (HB.out.cell (World.block_lt_of_cell? w _ hx188_0)).trans hx188_0); (replace p188 := eq_true p188); (replace q188 := eq_true q188); (have p189 : 0 ≤ ((rd l0_2 x14_1) : Int) := odQ); (have q189 : (rd l0_2 x14_1) < (l1.length : Int) := odQ); (obtain ⟨ad189, e189, hx189_0⟩ := Kd.at_int HR1.out (rd l0_2 x14_1) p189 q189); (obtain rfl : ad188 = ad189 := (by injection e189)); (replace hx189_0 := (HB.out.cell (World.block_lt_of_cell? w _ hx189_0)).trans hx189_0); (replace p189 := eq_true p189); (replace q189 := eq_true q189); (go_wp2); (go_roundg k1)
                    case measure => have := HK1.out; omega
                    case rel => exact ⟨(wrap64 (x5_1 + (rd l1 (rd l0_2 x14_1)))), (wrap64 (x14_1 + 1)), (by first | rfl | (simp; done) | (simp [*]; done)), (by first | rfl | (simp; done) | (simp [*]; done)), H', ⟨by have := HK1.out; omega⟩, ⟨bkQ⟩, ⟨hbQ⟩⟩
              (focus ((rw [if_neg c10] at H); (exact absurd H (by simp))))
            (focus ((rw [if_neg c9] at H); (exact absurd H (by simp))))
          (focus ((rw [if_neg c8] at H); (exact absurd H (by simp))))
        (focus ((rw [if_neg c7] at H); (exact absurd H (by simp))))
      (focus ((rw [if_neg c6] at H); (have c6b0 : decide (x14_1 < (l0_2.length : Int)) = false := decide_eq_false c6); (clear c6); (obtain rfl := Option.some.inj H); (go_wp2); (go_ret); (exact ⟨by first | rfl | (simp [errW_none, errW_some] <;> rfl) | (simp [*, errW_none, errW_some] <;> rfl), hbQ⟩)))

end Go.Proofs.Ytakblgcheakbnaa.PFnExactBestCosts
