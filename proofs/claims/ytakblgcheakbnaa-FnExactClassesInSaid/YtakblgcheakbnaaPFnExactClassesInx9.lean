/- Functions of the program and of the reference as plain Lean functions, and what their calls come to; partly printed by a program, partly by hand; no condition beyond what each theorem says. -/
import Derived.Test.YtakblgcheakbnaaPFnExactClassesInx0
import Derived.Test.YtakblgcheakbnaaPFnExactClassesInx1
import Derived.Test.YtakblgcheakbnaaPFnExactClassesInx2
import Derived.Test.YtakblgcheakbnaaPFnExactClassesInx6
import Derived.Test.YtakblgcheakbnaaPFnExactClassesInx8
namespace Go.Proofs.Ytakblgcheakbnaa.PFnExactClassesIn
open Go.RowKit Go.Proofs.YtakblgcheakbnaaW.PrintWords Go.Proofs.YtakblgcheakbnaaW.PrintLast Go.Proofs.YtakblgcheakbnaaW.PrintMore
attribute [local go_sem] max2_int min2_int max_two min_two max_three min_three max_four min_four   -- for this text's walks alone
set_option linter.unusedVariables false
set_option linter.unusedSimpArgs false

/-! ### impl_partList: function 108 -/
def impl_partList.l0 : Nat → List Int → List Int → Int → Int → Option (List Int)
  | 0, _, _, _, _ => none
  | k + 1, x3, x7, x8, x9 => if x9 < x8 then (if 0 ≤ x9 then (if x9 < (x7.length : Int) then (if (rd x7 x9) = x9 then (if x3.length < 17592186044416 then (impl_partList.l0 k (x3 ++ [x9]) x7 x8 (wrap64 (x9 + 1))) else (none)) else (impl_partList.l0 k x3 x7 x8 (wrap64 (x9 + 1)))) else (none)) else (none)) else (some x3)
def impl_partList.f (k : Nat) (l0 : List Int) : Option (List Int) := impl_partList.l0 k (([] : List Int)) l0 (l0.length : Int) 0
theorem impl_partList.mono_l : ∀ k, (∀ y0 y1 y2 y3, LeO (impl_partList.l0 k y0 y1 y2 y3) (impl_partList.l0 (k + 1) y0 y1 y2 y3))
  | 0 => fun _ _ _ _ r h => by simp [impl_partList.l0] at h
  | k + 1 => by
    have ih0 := impl_partList.mono_l k
    · intro y0 y1 y2 y3
      unfold impl_partList.l0
      repeat' first
      | (with_reducible exact ih0 _ _ _ _)
      | (with_reducible exact LeO.refl _)
      | (with_reducible exact LeO.none _)
      | (with_reducible refine LeO.ite ?_ ?_)
      | (with_reducible refine LeO.bind ?_ (fun _ => ?_))
      | exact ih0 _ _ _ _
      | exact LeO.none _
      | refine LeO.ite ?_ ?_
      | refine LeO.bind ?_ (fun _ => ?_)
theorem impl_partList.mono : ∀ a0 k, LeO (impl_partList.f k a0) (impl_partList.f (k + 1) a0) := by
  intro a0 k
  have ih0 := impl_partList.mono_l k
  unfold impl_partList.f
  repeat' first
      | (with_reducible exact ih0 _ _ _ _)
      | (with_reducible exact LeO.refl _)
      | (with_reducible exact LeO.none _)
      | (with_reducible refine LeO.ite ?_ ?_)
      | (with_reducible refine LeO.bind ?_ (fun _ => ?_))
      | exact ih0 _ _ _ _
      | exact LeO.none _
      | refine LeO.ite ?_ ?_
      | refine LeO.bind ?_ (fun _ => ?_)
set_option maxHeartbeats 8000000 in
set_option maxRecDepth 100000 in
theorem impl_partList.calls (k : Nat) (A0 : Option Addr) (c0 : Nat) (l0 : List Int) (r : List Int) (w : World) (hr0 : Kd.C (Kd.int .i64) w A0 l0.length l0) (hc0 : l0.length ≤ c0) (h : impl_partList.f k l0 = some r) :
    Calls Try.prog 108 #[.slice A0 l0.length c0] w fun e w' => ∃ v0_ : Value, e = .returned (v0_) ∧ Kd.R (Kd.int .i64) 3 w' w.heap.size (fun _ => True) v0_ r ∧ Below w.heap.size w w' := by
  have HR0 := Aside0.mk hr0
  have HC0 := Aside0.mk hc0
  clear hr0 hc0
  have HB := Aside0.mk (Below.refl w.heap.size w)
  have H : (impl_partList.l0 k (([] : List Int)) l0 (l0.length : Int) 0) = some r := h
  clear h
  obtain ⟨y216, hy216⟩ : ∃ y_ : List Int, y_ = (([] : List Int)) := ⟨_, rfl⟩
  replace H : (impl_partList.l0 k y216 l0 (l0.length : Int) 0) = some r := by first | (rw [hy216]; with_reducible exact H) | (have H2_ := (Option.bind_some _ _).symm.trans H; rw [hy216]; with_reducible exact H2_) | (have H2_ := (Option.bind_some _ _).symm.trans H; with_reducible exact H2_) | with_reducible exact H | (rw [hy216]; exact H) | exact H
  have Ny216 := Aside0.mk hy216
  clear hy216
  have H' := Aside0.mk H
  clear H
  go_enter Try.func108, Try.ntmps108
  go_wp2_with (first | ((with_reducible refine gate_dst (N := 6) rfl ?_); refine Kd.R_lit (Kd.int .i64) _ 3 ?hg (N := 6) ?hd (xs := ([] : List Int)) (inner := []) (ok := fun _ => True) (okp := fun _ => True) ?hr ?hp (fun _ hk => hk) trivial (Below.refl _ _) (Nat.le_refl _) (by simp) ?_; (case hd => rfl); (case hg => rfl); (case hr => first | (go_simp; done) | (go_simp; rfl)); (case hp => exact (Reps.none _ _)); intro v217 w2 ho3 hb hg_ hnew_; clear hg_ hnew_; (first | rw [← Ny216.out] at ho3 | (simp only [Int.reduceToNat] at ho3; rw [← Ny216.out] at ho3)); have n0_ := Aside0.mk (Kd.R_lower ho3 (below_size (by repeat (first | (with_reducible first | exact HB.out | apply below_alloc | apply pw_below_drewN | apply below_drew1) | exact HB.out)))); have n1_ := Aside0.mk (below_step (by repeat (first | (with_reducible first | exact HB.out | apply below_alloc | apply pw_below_drewN | apply below_drew1) | exact HB.out)) hb); clear HB; have HO218 := n0_; have HB := n1_; clear n0_ n1_; clear hb ho3))
  go_loopg [3, 9] k (fun kq v3 v9 w' => ∃ (x3_1 : List Int) (x9_1 : Int), v9 = .int .i64 x9_1 ∧ Aside0 (impl_partList.l0 kq x3_1 l0 (l0.length : Int) x9_1 = some r) ∧ Aside0 (kq ≤ k) ∧ Aside0 (Kd.R (Kd.int .i64) 3 w' w.heap.size (fun _ => True) v3 x3_1) ∧ Aside0 (Below w.heap.size w w'))
  case atStart => exact ⟨(y216), (0), (by first | rfl | (simp; done) | (simp [*]; done)), H', ⟨Nat.le_refl _⟩, ⟨by (with_reducible repeat (first | apply Kd.R_alloc | apply Kd.R_drewN | apply Kd.R_drew)); exact HO218.out⟩, ⟨by repeat (first | (with_reducible first | exact HB.out | apply below_alloc | apply pw_below_drewN | apply below_drew1) | exact HB.out)⟩⟩
  case round =>
    clear H'
    try clear c1
    try clear p2
    obtain ⟨x3_1, x9_1, rfl, HA, HK1, HO_3, HB⟩ := hrel
    cases gk with
    | zero => exact absurd HA.out (by simp [impl_partList.l0])
    | succ k1 =>
      have H := HA.out
      clear HA
      simp only [impl_partList.l0] at H
      by_cases c4 : x9_1 < (l0.length : Int)
      · rw [if_pos c4] at H
        have c4b0 : decide (x9_1 < (l0.length : Int)) = true := decide_eq_true c4
        clear c4
        by_cases c5 : 0 ≤ x9_1
        · rw [if_pos c5] at H
          have c5b0 : decide (0 ≤ x9_1) = true := decide_eq_true c5
          clear c5
          by_cases c6 : x9_1 < (l0.length : Int)
          · rw [if_pos c6] at H
            have c6b0 : decide (x9_1 < (l0.length : Int)) = true := decide_eq_true c6
            clear c6
            by_cases c7 : (rd l0 x9_1) = x9_1
            · rw [if_pos c7] at H
              have c7b0 : ((rd l0 x9_1) == x9_1) = true := beq_iff_eq.mpr c7
              have c7b1 : ((rd l0 x9_1) != x9_1) = false := bne_eq_false_iff_eq.mpr c7
              clear c7
              by_cases c8 : x3_1.length < 17592186044416
              · rw [if_pos c8] at H
                have LMc8 := Aside0.mk c8
                clear c8
                obtain ⟨y220, hy220⟩ : ∃ y_ : List Int, y_ = (x3_1 ++ [x9_1]) := ⟨_, rfl⟩
                replace H : (impl_partList.l0 k1 y220 l0 (l0.length : Int) (wrap64 (x9_1 + 1))) = some r := by first | (rw [hy220]; with_reducible exact H) | (have H2_ := (Option.bind_some _ _).symm.trans H; rw [hy220]; with_reducible exact H2_) | (have H2_ := (Option.bind_some _ _).symm.trans H; with_reducible exact H2_) | with_reducible exact H | (rw [hy220]; exact H) | exact H
                have Ny220 := Aside0.mk hy220
                clear hy220
                have H' := Aside0.mk H
                clear H
                have p219 : 0 ≤ (x9_1 : Int) := of_decide_eq_true (by first | (with_reducible assumption) | assumption)
                have q219 : x9_1 < (l0.length : Int) := of_decide_eq_true (by first | (with_reducible assumption) | assumption)
                obtain ⟨ad219, e219, hx219_0⟩ := Kd.at_int HR0.out x9_1 p219 q219
                cases e219
                replace hx219_0 := (HB.out.cell (World.block_lt_of_cell? w _ hx219_0)).trans hx219_0
                replace p219 := eq_true p219
                replace q219 := eq_true q219
                go_wp2_with (first | ((with_reducible refine gate_builtin (b := .append) (xs := #[.tmp 17, .tmp 19]) rfl ?_); at_builtin; refine Kd.R_append (Kd.int .i64) (w0 := w) w.heap.size rfl (.tmp 17) (.tmp 19) 23 3 (.int .i64 0) 8 rfl Try.underlying23 info3 rfl (by decide) (by omega) u3 x3_1 x9_1 [.int .i64 x9_1] (fun _ => True) (fun _ => False) rfl rfl ?aP (fun _ hk => hk.elim) ?aF ?aO ?aB ?aS ?aL ?_; (case aP => exact rfl); (case aB => exact (by repeat (first | (with_reducible first | exact HB.out | apply below_alloc | apply pw_below_drewN | apply below_drew1) | exact HB.out))); (case aF => exact (fun _ _ => trivial)); (case aO => exact (by (with_reducible repeat (first | apply Kd.R_alloc | apply Kd.R_drewN | apply Kd.R_drew)); exact HO_3.out)); (case aS => exact (below_size (by repeat (first | (with_reducible first | exact HB.out | apply below_alloc | apply pw_below_drewN | apply below_drew1) | exact HB.out)))); (case aL => have := LMc8.out; omega); intro v221 w9 ho hb hg hat; rw [← Ny220.out] at ho; have n0_ := Aside0.mk (hb); have n1_ := Aside0.mk (ho); clear HB; clear HO_3; have HB := n0_; have HO222 := n1_; clear n0_ n1_; clear ho hb hg hat))
                go_roundg k1
                case measure => have := HK1.out; omega
                case rel => exact ⟨(y220), (wrap64 (x9_1 + 1)), (by first | rfl | (simp; done) | (simp [*]; done)), H', ⟨by have := HK1.out; omega⟩, ⟨by (with_reducible repeat (first | apply Kd.R_alloc | apply Kd.R_drewN | apply Kd.R_drew)); exact HO222.out⟩, ⟨by repeat (first | (with_reducible first | exact HB.out | apply below_alloc | apply pw_below_drewN | apply below_drew1) | exact HB.out)⟩⟩
              · rw [if_neg c8] at H
                exact absurd H (by simp)
            · rw [if_neg c7] at H
              have c7b0 : ((rd l0 x9_1) == x9_1) = false := beq_eq_false_iff_ne.mpr c7
              have c7b1 : ((rd l0 x9_1) != x9_1) = true := bne_iff_ne.mpr c7
              have H' := Aside0.mk H
              clear H
              have p219 : 0 ≤ (x9_1 : Int) := of_decide_eq_true (by first | (with_reducible assumption) | assumption)
              have q219 : x9_1 < (l0.length : Int) := of_decide_eq_true (by first | (with_reducible assumption) | assumption)
              obtain ⟨ad219, e219, hx219_0⟩ := Kd.at_int HR0.out x9_1 p219 q219
              cases e219
              replace hx219_0 := (HB.out.cell (World.block_lt_of_cell? w _ hx219_0)).trans hx219_0
              replace p219 := eq_true p219
              replace q219 := eq_true q219
              go_wp2
              go_roundg k1
              case measure => have := HK1.out; omega
              case rel => exact ⟨(x3_1), (wrap64 (x9_1 + 1)), (by first | rfl | (simp; done) | (simp [*]; done)), H', ⟨by have := HK1.out; omega⟩, ⟨by (with_reducible repeat (first | apply Kd.R_alloc | apply Kd.R_drewN | apply Kd.R_drew)); exact HO_3.out⟩, ⟨by repeat (first | (with_reducible first | exact HB.out | apply below_alloc | apply pw_below_drewN | apply below_drew1) | exact HB.out)⟩⟩
          · rw [if_neg c6] at H
            exact absurd H (by simp)
        · rw [if_neg c5] at H
          exact absurd H (by simp)
      · rw [if_neg c4] at H
        have c4b0 : decide (x9_1 < (l0.length : Int)) = false := decide_eq_false c4
        clear c4
        obtain rfl := Option.some.inj H
        go_wp2
        go_ret
        exact ⟨_, by first | rfl | (simp [errW_none, errW_some] <;> rfl) | (simp [*, errW_none, errW_some] <;> rfl), by (with_reducible repeat (first | apply Kd.R_alloc | apply Kd.R_drewN | apply Kd.R_drew)); exact HO_3.out, by repeat (first | (with_reducible first | exact HB.out | apply below_alloc | apply pw_below_drewN | apply below_drew1) | exact HB.out)⟩

/-! ### impl_ClassesIn: function 45 -/
def impl_ClassesIn.f (k : Nat) (l0_0 : List (S114)) (l0_1 : List Int) : Option (List Int × Bool) := (impl_GoodGraph.f k l0_0 l0_1).bind fun t224 => (if t224 = true then ((impl_partList.f k l0_1).bind fun t225 => (some (t225, true))) else (some (([] : List Int), false)))
theorem impl_ClassesIn.mono : ∀ a0 a1 k, LeO (impl_ClassesIn.f k a0 a1) (impl_ClassesIn.f (k + 1) a0 a1) := by
  intro a0 a1 k
  unfold impl_ClassesIn.f
  repeat' first
      | (with_reducible exact impl_GoodGraph.mono _ _ _)
      | (with_reducible exact impl_partList.mono _ _)
      | (with_reducible exact LeO.refl _)
      | (with_reducible exact LeO.none _)
      | (with_reducible refine LeO.ite ?_ ?_)
      | (with_reducible refine LeO.bind ?_ (fun _ => ?_))
      | exact impl_GoodGraph.mono _ _ _
      | exact impl_partList.mono _ _
      | exact LeO.none _
      | refine LeO.ite ?_ ?_
      | refine LeO.bind ?_ (fun _ => ?_)
set_option maxHeartbeats 8000000 in
set_option maxRecDepth 100000 in
theorem impl_ClassesIn.calls (k : Nat) (A0_0 : Option Addr) (c0_0 : Nat) (l0_0 : List (S114)) (A0_1 : Option Addr) (c0_1 : Nat) (l0_1 : List Int) (r1 : List Int) (r2 : Bool) (w : World) (hr0_0 : Kd.C k114 w A0_0 l0_0.length l0_0) (hc0_0 : l0_0.length ≤ c0_0) (hr0_1 : Kd.C (Kd.int .i64) w A0_1 l0_1.length l0_1) (hc0_1 : l0_1.length ≤ c0_1) (h : impl_ClassesIn.f k l0_0 l0_1 = some (r1, r2)) :
    Calls Try.prog 45 #[.agg #[.slice A0_0 l0_0.length c0_0, .slice A0_1 l0_1.length c0_1]] w fun e w' => ∃ v0_ : Value, e = .returned (.tuple #[v0_, .bool r2]) ∧ Kd.R (Kd.int .i64) 3 w' w.heap.size (fun _ => True) v0_ r1 ∧ Below w.heap.size w w' := by
  have hu34 := Try.underlying34
  have HR0_0 := Aside0.mk hr0_0
  have HC0_0 := Aside0.mk hc0_0
  clear hr0_0 hc0_0
  have HR0_1 := Aside0.mk hr0_1
  have HC0_1 := Aside0.mk hc0_1
  clear hr0_1 hc0_1
  have HB := Aside0.mk (Below.refl w.heap.size w)
  have H : ((impl_GoodGraph.f k l0_0 l0_1).bind fun t224 => (if t224 = true then ((impl_partList.f k l0_1).bind fun t225 => (some (t225, true))) else (some (([] : List Int), false)))) = some (r1, r2) := h
  clear h
  replace H := Option.bind_eq_some_iff.mp H
  obtain ⟨t224, A20, H⟩ := H
  replace H : (if t224 = true then ((impl_partList.f k l0_1).bind fun t225 => (some (t225, true))) else (some (([] : List Int), false))) = some (r1, r2) := H
  have A2 := Aside0.mk A20
  clear A20
  by_cases c3 : t224 = true
  · subst c3
    have H1 : ((impl_partList.f k l0_1).bind fun t225 => (some (t225, true))) = some (r1, r2) := by rw [if_pos rfl] at H; exact H
    clear H
    have H := H1
    clear H1
    replace H := Option.bind_eq_some_iff.mp H
    obtain ⟨t225, A40, H⟩ := H
    replace H : (some (t225, true)) = some (r1, r2) := H
    have A4 := Aside0.mk A40
    clear A40
    simp only [Option.some.injEq, Prod.mk.injEq] at H
    obtain ⟨rfl, rfl⟩ := H
    go_enter Try.func45, Try.ntmps45
    go_wp2_with (first | ((with_reducible refine gate_dst (N := 1) rfl ?_); refine box_event ?hg (N := 1) ?hd (cs := #[.slice A0_0 l0_0.length c0_0, .slice A0_1 l0_1.length c0_1]) (t := 34) ?hr ?_; (case hd => rfl); (case hg => rfl); (case hr => first | (go_simp; done) | (go_simp; rfl)); intro gb223 hg w5 hbox hb; have n0_ := Aside0.mk (below_step (by repeat (first | (with_reducible first | exact HB.out | apply below_alloc | apply pw_below_drewN | apply below_drew1) | exact HB.out)) hb); have n1_ := Aside0.mk (hbox); have n2_ := Aside0.mk ((by rw [hg]; exact (below_size (by repeat (first | (with_reducible first | exact HB.out | apply below_alloc | apply pw_below_drewN | apply below_drew1) | exact HB.out))) : w.heap.size ≤ gb223)); have n3_ := Aside0.mk ((by rw [hg]; exact (below_size (by repeat (first | (with_reducible first | exact HB.out | apply below_alloc | apply pw_below_drewN | apply below_drew1) | exact HB.out))) : w.heap.size ≤ gb223)); clear HB; have HB := n0_; have BK223 := n1_; have GW223 := n2_; have GE223 := n3_; clear n0_ n1_ n2_ n3_; clear hb hbox hg; have hcz6_0 : w5.cell? ⟨gb223, 0, none⟩ = some (.slice A0_0 l0_0.length c0_0) := (blk_cell BK223.out 0).trans rfl; have hcz6_1 : w5.cell? ⟨gb223, 1, none⟩ = some (.slice A0_1 l0_1.length c0_1) := (blk_cell BK223.out 1).trans rfl; have hfz6_0 := blk_frozen BK223.out 0; have hfz6_1 := blk_frozen BK223.out 1) | ((with_reducible refine gate_callee (f := 36) rfl ?_); refine goesL_ (some 5) rfl rfl Try.func36 (by kernel_rfl) rfl #[.agg #[.slice A0_0 l0_0.length c0_0, .slice A0_1 l0_1.length c0_1]] rfl (by (try simp only [List.map_toArray, List.map_cons, List.map_nil]); first | done | rfl | (simp only [List.length_drop, List.length_take]; rfl)) ?_; (with_reducible refine (impl_GoodGraph.calls k _ _ l0_0 _ _ l0_1 true _ ?side1 ?side2 ?side3 ?side4 A2.out).mono ?_); (case side1 => repeat (first | exact (Kd.C_below HR0_0.out HB.out) | (with_reducible refine Kd.C_alloc ?_ _) | (with_reducible refine Kd.C_drewN ?_ _) | (with_reducible refine Kd.C_drew ?_))); (case side2 => exact HC0_0.out); (case side3 => repeat (first | exact (Kd.C_below HR0_1.out HB.out) | (with_reducible refine Kd.C_alloc ?_ _) | (with_reducible refine Kd.C_drewN ?_ _) | (with_reducible refine Kd.C_drew ?_))); (case side4 => exact HC0_1.out); rintro e w7 ⟨rfl, hb⟩; refine ⟨_, rfl, ?_⟩; have n0_ := Aside0.mk (blk_below (g := gb223) (o := .cells #[.slice A0_0 l0_0.length c0_0, .slice A0_1 l0_1.length c0_1] 34 (0, 0)) (by (with_reducible repeat (first | refine blk_drewN ?_ _ | refine blk_drew ?_ | refine blk_alloc ?_ _)); exact BK223.out) hb); have n1_ := Aside0.mk (below_step (by repeat (first | (with_reducible first | exact HB.out | apply below_alloc | apply pw_below_drewN | apply below_drew1 | refine below_set ?_ GE223.out) | exact HB.out)) hb); clear BK223; clear HB; have BK223 := n0_; have HB := n1_; clear n0_ n1_; (try clear hb); (try clear hb2); (try clear hk); (try clear hi); have hcz8_0 : w7.cell? ⟨gb223, 0, none⟩ = some (.slice A0_0 l0_0.length c0_0) := (blk_cell BK223.out 0).trans rfl; have hcz8_1 : w7.cell? ⟨gb223, 1, none⟩ = some (.slice A0_1 l0_1.length c0_1) := (blk_cell BK223.out 1).trans rfl; have hfz8_0 := blk_frozen BK223.out 0; have hfz8_1 := blk_frozen BK223.out 1) | ((with_reducible refine gate_callee (f := 108) rfl ?_); refine goesL_ (some 9) rfl rfl Try.func108 (by kernel_rfl) rfl #[.slice A0_1 l0_1.length c0_1] rfl (by (try simp only [List.map_toArray, List.map_cons, List.map_nil]); first | done | rfl | (simp only [List.length_drop, List.length_take]; rfl)) ?_; (with_reducible refine (impl_partList.calls k _ _ l0_1 t225 _ ?side1 ?side2 A4.out).mono ?_); (case side1 => repeat (first | exact (Kd.C_below HR0_1.out HB.out) | (with_reducible refine Kd.C_alloc ?_ _) | (with_reducible refine Kd.C_drewN ?_ _) | (with_reducible refine Kd.C_drew ?_))); (case side2 => exact HC0_1.out); rintro e w9 ⟨v226, rfl, ho0, hb⟩; refine ⟨_, rfl, ?_⟩; have n0_ := Aside0.mk (Kd.R_lower ho0 (below_size (by repeat (first | (with_reducible first | exact HB.out | apply below_alloc | apply pw_below_drewN | apply below_drew1 | refine below_set ?_ GE223.out) | exact HB.out)))); have n1_ := Aside0.mk (blk_below (g := gb223) (o := .cells #[.slice A0_0 l0_0.length c0_0, .slice A0_1 l0_1.length c0_1] 34 (0, 0)) (by (with_reducible repeat (first | refine blk_drewN ?_ _ | refine blk_drew ?_ | refine blk_alloc ?_ _)); exact BK223.out) hb); have n2_ := Aside0.mk (below_step (by repeat (first | (with_reducible first | exact HB.out | apply below_alloc | apply pw_below_drewN | apply below_drew1 | refine below_set ?_ GE223.out) | exact HB.out)) hb); clear BK223; clear HB; have HO227 := n0_; have BK223 := n1_; have HB := n2_; clear n0_ n1_ n2_; (try clear hb); (try clear hb2); (try clear hk); (try clear hi); (try clear ho0)))
    go_ret2
    exact ⟨_, by first | rfl | (simp [errW_none, errW_some] <;> rfl) | (simp [*, errW_none, errW_some] <;> rfl), by (with_reducible repeat (first | apply Kd.R_alloc | apply Kd.R_drewN | apply Kd.R_drew)); exact HO227.out, by repeat (first | (with_reducible first | exact HB.out | apply below_alloc | apply pw_below_drewN | apply below_drew1 | refine below_set ?_ GE223.out) | exact HB.out)⟩
  · replace c3 := Bool.eq_false_iff.mpr c3
    subst c3
    have H1 : (some (([] : List Int), false)) = some (r1, r2) := by rw [if_neg (show ¬ (false = true) by decide)] at H; exact H
    clear H
    have H := H1
    clear H1
    simp only [Option.some.injEq, Prod.mk.injEq] at H
    obtain ⟨rfl, rfl⟩ := H
    go_enter Try.func45, Try.ntmps45
    go_wp2_with (first | ((with_reducible refine gate_dst (N := 1) rfl ?_); refine box_event ?hg (N := 1) ?hd (cs := #[.slice A0_0 l0_0.length c0_0, .slice A0_1 l0_1.length c0_1]) (t := 34) ?hr ?_; (case hd => rfl); (case hg => rfl); (case hr => first | (go_simp; done) | (go_simp; rfl)); intro gb223 hg w10 hbox hb; have n0_ := Aside0.mk (below_step (by repeat (first | (with_reducible first | exact HB.out | apply below_alloc | apply pw_below_drewN | apply below_drew1) | exact HB.out)) hb); have n1_ := Aside0.mk (hbox); have n2_ := Aside0.mk ((by rw [hg]; exact (below_size (by repeat (first | (with_reducible first | exact HB.out | apply below_alloc | apply pw_below_drewN | apply below_drew1) | exact HB.out))) : w.heap.size ≤ gb223)); have n3_ := Aside0.mk ((by rw [hg]; exact (below_size (by repeat (first | (with_reducible first | exact HB.out | apply below_alloc | apply pw_below_drewN | apply below_drew1) | exact HB.out))) : w.heap.size ≤ gb223)); clear HB; have HB := n0_; have BK223 := n1_; have GW223 := n2_; have GE223 := n3_; clear n0_ n1_ n2_ n3_; clear hb hbox hg; have hcz11_0 : w10.cell? ⟨gb223, 0, none⟩ = some (.slice A0_0 l0_0.length c0_0) := (blk_cell BK223.out 0).trans rfl; have hcz11_1 : w10.cell? ⟨gb223, 1, none⟩ = some (.slice A0_1 l0_1.length c0_1) := (blk_cell BK223.out 1).trans rfl; have hfz11_0 := blk_frozen BK223.out 0; have hfz11_1 := blk_frozen BK223.out 1) | ((with_reducible refine gate_callee (f := 36) rfl ?_); refine goesL_ (some 5) rfl rfl Try.func36 (by kernel_rfl) rfl #[.agg #[.slice A0_0 l0_0.length c0_0, .slice A0_1 l0_1.length c0_1]] rfl (by (try simp only [List.map_toArray, List.map_cons, List.map_nil]); first | done | rfl | (simp only [List.length_drop, List.length_take]; rfl)) ?_; (with_reducible refine (impl_GoodGraph.calls k _ _ l0_0 _ _ l0_1 false _ ?side1 ?side2 ?side3 ?side4 A2.out).mono ?_); (case side1 => repeat (first | exact (Kd.C_below HR0_0.out HB.out) | (with_reducible refine Kd.C_alloc ?_ _) | (with_reducible refine Kd.C_drewN ?_ _) | (with_reducible refine Kd.C_drew ?_))); (case side2 => exact HC0_0.out); (case side3 => repeat (first | exact (Kd.C_below HR0_1.out HB.out) | (with_reducible refine Kd.C_alloc ?_ _) | (with_reducible refine Kd.C_drewN ?_ _) | (with_reducible refine Kd.C_drew ?_))); (case side4 => exact HC0_1.out); rintro e w12 ⟨rfl, hb⟩; refine ⟨_, rfl, ?_⟩; have n0_ := Aside0.mk (blk_below (g := gb223) (o := .cells #[.slice A0_0 l0_0.length c0_0, .slice A0_1 l0_1.length c0_1] 34 (0, 0)) (by (with_reducible repeat (first | refine blk_drewN ?_ _ | refine blk_drew ?_ | refine blk_alloc ?_ _)); exact BK223.out) hb); have n1_ := Aside0.mk (below_step (by repeat (first | (with_reducible first | exact HB.out | apply below_alloc | apply pw_below_drewN | apply below_drew1 | refine below_set ?_ GE223.out) | exact HB.out)) hb); clear BK223; clear HB; have BK223 := n0_; have HB := n1_; clear n0_ n1_; (try clear hb); (try clear hb2); (try clear hk); (try clear hi)))
    go_ret2
    exact ⟨_, by first | rfl | (simp [errW_none, errW_some] <;> rfl) | (simp [*, errW_none, errW_some] <;> rfl), by first | exact Kd.R_nil _ _ _ _ _ | exact Kd.N_nil _ _ _ _ _ | exact Kd.V_nil _ _ _ _ _ | exact Kd.Q_nil _ _ _ _ _ | exact Kd.S_nil _ _ _ _ _, by repeat (first | (with_reducible first | exact HB.out | apply below_alloc | apply pw_below_drewN | apply below_drew1 | refine below_set ?_ GE223.out) | exact HB.out)⟩

/-! ### laws_heldIntS: function 48 -/
def laws_heldIntS.l0 : Nat → List Int → Int → Int → Option (Int)
  | 0, _, _, _ => none
  | k + 1, x0, x1, x5 => if x5 < (x0.length : Int) then (if 0 ≤ x5 then (if (rd x0 x5) = x1 then (laws_heldIntS.l0 k x0 (wrap64 (x1 + 1)) (wrap64 (x5 + 1))) else (some (-1))) else (none)) else (some x1)
def laws_heldIntS.f (k : Nat) (l0 : List Int) (a1 : Int) : Option (Int) := laws_heldIntS.l0 k l0 a1 0
theorem laws_heldIntS.mono_l : ∀ k, (∀ y0 y1 y2, LeO (laws_heldIntS.l0 k y0 y1 y2) (laws_heldIntS.l0 (k + 1) y0 y1 y2))
  | 0 => fun _ _ _ r h => by simp [laws_heldIntS.l0] at h
  | k + 1 => by
    have ih0 := laws_heldIntS.mono_l k
    · intro y0 y1 y2
      unfold laws_heldIntS.l0
      repeat' first
      | (with_reducible exact ih0 _ _ _)
      | (with_reducible exact LeO.refl _)
      | (with_reducible exact LeO.none _)
      | (with_reducible refine LeO.ite ?_ ?_)
      | (with_reducible refine LeO.bind ?_ (fun _ => ?_))
      | exact ih0 _ _ _
      | exact LeO.none _
      | refine LeO.ite ?_ ?_
      | refine LeO.bind ?_ (fun _ => ?_)
theorem laws_heldIntS.mono : ∀ a0 a1 k, LeO (laws_heldIntS.f k a0 a1) (laws_heldIntS.f (k + 1) a0 a1) := by
  intro a0 a1 k
  have ih0 := laws_heldIntS.mono_l k
  unfold laws_heldIntS.f
  repeat' first
      | (with_reducible exact ih0 _ _ _)
      | (with_reducible exact LeO.refl _)
      | (with_reducible exact LeO.none _)
      | (with_reducible refine LeO.ite ?_ ?_)
      | (with_reducible refine LeO.bind ?_ (fun _ => ?_))
      | exact ih0 _ _ _
      | exact LeO.none _
      | refine LeO.ite ?_ ?_
      | refine LeO.bind ?_ (fun _ => ?_)
set_option maxHeartbeats 8000000 in
set_option maxRecDepth 100000 in
theorem laws_heldIntS.calls (k : Nat) (A0 : Option Addr) (c0 : Nat) (l0 : List Int) (a1 : Int) (r : Int) (w : World) (hr0 : Kd.C (Kd.int .i64) w A0 l0.length l0) (hc0 : l0.length ≤ c0) (h : laws_heldIntS.f k l0 a1 = some r) :
    Calls Try.prog 48 #[.slice A0 l0.length c0, .int .i64 a1] w fun e w' => e = .returned (.int .i64 r) ∧ Drawn0 w w' := by
  have HR0 := Aside0.mk hr0
  have HC0 := Aside0.mk hc0
  clear hr0 hc0
  have H : (laws_heldIntS.l0 k l0 a1 0) = some r := h
  clear h
  have H' := Aside0.mk H
  clear H
  go_enter Try.func48, Try.ntmps48
  go_wp2
  go_loopg [1, 5] k (fun kq v1 v5 w' => ∃ (x1_1 : Int) (x5_1 : Int), v1 = .int .i64 x1_1 ∧ v5 = .int .i64 x5_1 ∧ Aside0 (laws_heldIntS.l0 kq l0 x1_1 x5_1 = some r) ∧ Aside0 (kq ≤ k) ∧ Drawn0 w w')
  case atStart => exact ⟨(a1), (0), (by first | rfl | (simp; done) | (simp [*]; done)), (by first | rfl | (simp; done) | (simp [*]; done)), H', ⟨Nat.le_refl _⟩, by repeat (first | exact Drawn0.refl _ | apply Drawn0.step)⟩
  case round =>
    clear H'
    try clear p2
    obtain ⟨x1_1, x5_1, rfl, rfl, HA, HK1, ⟨m1, rfl⟩⟩ := hrel
    cases gk with
    | zero => exact absurd HA.out (by simp [laws_heldIntS.l0])
    | succ k1 =>
      have H := HA.out
      clear HA
      simp only [laws_heldIntS.l0] at H
      by_cases c3 : x5_1 < (l0.length : Int)
      · rw [if_pos c3] at H
        have c3b0 : decide (x5_1 < (l0.length : Int)) = true := decide_eq_true c3
        clear c3
        by_cases c4 : 0 ≤ x5_1
        · rw [if_pos c4] at H
          have c4b0 : decide (0 ≤ x5_1) = true := decide_eq_true c4
          clear c4
          by_cases c5 : (rd l0 x5_1) = x1_1
          · rw [if_pos c5] at H
            have c5b0 : ((rd l0 x5_1) == x1_1) = true := beq_iff_eq.mpr c5
            have c5b1 : ((rd l0 x5_1) != x1_1) = false := bne_eq_false_iff_eq.mpr c5
            clear c5
            have H' := Aside0.mk H
            clear H
            have p228 : 0 ≤ (x5_1 : Int) := of_decide_eq_true (by first | (with_reducible assumption) | assumption)
            have q228 : x5_1 < (l0.length : Int) := of_decide_eq_true (by first | (with_reducible assumption) | assumption)
            obtain ⟨ad228, e228, hx228_0⟩ := Kd.at_int HR0.out x5_1 p228 q228
            cases e228
            replace p228 := eq_true p228
            replace q228 := eq_true q228
            go_wp2
            go_roundg k1
            case measure => have := HK1.out; omega
            case rel => exact ⟨(wrap64 (x1_1 + 1)), (wrap64 (x5_1 + 1)), (by first | rfl | (simp; done) | (simp [*]; done)), (by first | rfl | (simp; done) | (simp [*]; done)), H', ⟨by have := HK1.out; omega⟩, by repeat (first | exact Drawn0.refl _ | apply Drawn0.step)⟩
          · rw [if_neg c5] at H
            have c5b0 : ((rd l0 x5_1) == x1_1) = false := beq_eq_false_iff_ne.mpr c5
            have c5b1 : ((rd l0 x5_1) != x1_1) = true := bne_iff_ne.mpr c5
            obtain rfl := Option.some.inj H
            have p228 : 0 ≤ (x5_1 : Int) := of_decide_eq_true (by first | (with_reducible assumption) | assumption)
            have q228 : x5_1 < (l0.length : Int) := of_decide_eq_true (by first | (with_reducible assumption) | assumption)
            obtain ⟨ad228, e228, hx228_0⟩ := Kd.at_int HR0.out x5_1 p228 q228
            cases e228
            replace p228 := eq_true p228
            replace q228 := eq_true q228
            go_wp2
            go_ret
            exact ⟨by first | rfl | (simp; done) | (simp [*]; done), by repeat (first | exact Drawn0.refl _ | apply Drawn0.step)⟩
        · rw [if_neg c4] at H
          exact absurd H (by simp)
      · rw [if_neg c3] at H
        have c3b0 : decide (x5_1 < (l0.length : Int)) = false := decide_eq_false c3
        clear c3
        obtain rfl := Option.some.inj H
        go_wp2
        go_ret
        exact ⟨by first | rfl | (simp; done) | (simp [*]; done), by repeat (first | exact Drawn0.refl _ | apply Drawn0.step)⟩

/-! ### laws.FnExactClassesIn: function 7, by hand -/
/-- What the law holds while it goes on: the reference's row and the program's, apart from the argument's copy (blocks a to b); the argument's own box. -/
structure HoldClassesIn (w W : World) (gp : Nat) (cs : Array Value) (a b : Nat) (v6 v9 : Value) (p q : List Int) : Prop where
  below : Below w.heap.size w W
  bp : W.heap[gp]? = some (.cells cs 25 (0, 0))
  gp : gp < a
  r6 : Kd.R (Kd.int .i64) 3 W w.heap.size (fun k => k < a) v6 p
  r9 : Kd.R (Kd.int .i64) 3 W w.heap.size (fun k => b ≤ k) v9 q
  lo : w.heap.size ≤ a
  ab : a ≤ b
  hi : b ≤ W.heap.size
theorem HoldClassesIn.step {w W W' : World} {gp : Nat} {cs : Array Value} {a b : Nat} {v6 v9 : Value} {p q : List Int} (h : HoldClassesIn w W gp cs a b v6 v9 p q) (hb : Below W.heap.size W W') : HoldClassesIn w W' gp cs a b v6 v9 p q :=
  ⟨below_step h.below hb, blk_below h.bp hb, h.gp, Kd.R_below h.r6 hb, Kd.R_below h.r9 hb, h.lo, h.ab, Nat.le_trans h.hi hb.size⟩
theorem HoldClassesIn.kept {w W W' : World} {gp : Nat} {cs : Array Value} {a b : Nat} {v6 v9 : Value} {p q : List Int} (h : HoldClassesIn w W gp cs a b v6 v9 p q) (hk : Kept W W' (fun k => a ≤ k ∧ k < b)) (hb : Below w.heap.size w W') : HoldClassesIn w W' gp cs a b v6 v9 p q :=
  ⟨hb, blk_kept h.bp hk (fun h2 => by have := h2.1; have := h.gp; omega), h.gp, Kd.R_kept h.r6 hk (fun k hk h2 => by have := h2.1; omega), Kd.R_kept h.r9 hk (fun k hk h2 => by have := h2.2; omega), h.lo, h.ab, Nat.le_trans h.hi hk.1⟩
theorem HoldClassesIn.mark {w W W' : World} {gp : Nat} {cs : Array Value} {a b : Nat} {v6 v9 : Value} {p q q' : List Int} (h : HoldClassesIn w W gp cs a b v6 v9 p q) (hk : Kept W W' (fun k => b ≤ k)) (hr : Kd.R (Kd.int .i64) 3 W' w.heap.size (fun k => b ≤ k ∨ W.heap.size ≤ k) v9 q') (hb : Below w.heap.size w W') : HoldClassesIn w W' gp cs a b v6 v9 p q' :=
  ⟨hb, blk_kept h.bp hk (fun h2 => by have := h.gp; have := h.ab; omega), h.gp, Kd.R_kept h.r6 hk (fun k hk h2 => by have := h.ab; omega), Kd.R_mono hr (fun k hk => hk.elim id (fun h2 => Nat.le_trans h.hi h2)), h.lo, h.ab, Nat.le_trans h.hi hk.1⟩
theorem HoldClassesIn.y0 {w W : World} {gp : Nat} {cs : Array Value} {a b : Nat} {v6 v9 : Value} {p q : List Int} (h : HoldClassesIn w W gp cs a b v6 v9 p q) (i : Nat) : W.cell? ⟨gp, i, none⟩ = cs[i]? := blk_cell h.bp i
/-- The argument's copy, before it is marked. -/
structure HoldClassesInX (w W : World) (a b : Nat) (v0 v1 : Value) (L1 : List S114) (L2 : List Int) : Prop where
  s : Kd.S k114 114 W w.heap.size (fun k => (a ≤ k ∧ k < b) ∧ some k ≠ v1.ownBlock) v0 L1
  r : Kd.R (Kd.int .i64) 3 W w.heap.size (fun k => a ≤ k ∧ k < b) v1 L2
theorem HoldClassesInX.step {w W W' : World} {a b : Nat} {v0 v1 : Value} {L1 : List S114} {L2 : List Int} (h : HoldClassesInX w W a b v0 v1 L1 L2) (hb : Below W.heap.size W W') : HoldClassesInX w W' a b v0 v1 L1 L2 := ⟨Kd.S_below h.s hb, Kd.R_below h.r hb⟩
def laws_FnExactClassesIn.f (k : Nat) (l0_0 : List S130) (l0_1 : List Int)  : Option Bool :=
  (laws_szEGraph.f k l0_0 l0_1 1048576).bind fun t => if t < 0 then some true else
    (laws_toEGraph.f k l0_0 l0_1).bind fun L => (spec_ClassesIn.f k L.1 L.2).bind fun p => (impl_ClassesIn.f k L.1 L.2).bind fun q =>
      (laws_eqIntS.f k q.1 p.1).bind fun e1 => (laws_eqEGraph.f k L.1 L.2 L.1 L.2).bind fun e2 => (laws_markIntS.f k q.1 1).bind fun m => (laws_heldIntS.f k m.2 1).bind fun h =>
        if (e1 = true ∧ e2 = true ∧ q.2 = p.2) ∧ L.1.length ≤ 100000000 ∧ enW L.1 + L.2.length ≤ 100000000 ∧ 0 ≤ h ∧ h = m.1 then some true else none
set_option maxHeartbeats 8000000 in
set_option maxRecDepth 100000 in
theorem laws_FnExactClassesIn.calls (k : Nat) (A0_0 : Option Addr) (c0_0 : Nat) (l0_0 : List S130) (A0_1 : Option Addr) (c0_1 : Nat) (l0_1 : List Int)  (r : Bool) (w : World) (hr0_0 : Kd.C k130 w A0_0 l0_0.length l0_0) (hc0_0 : l0_0.length ≤ c0_0) (hr0_1 : Kd.C (Kd.int .i64) w A0_1 l0_1.length l0_1) (hc0_1 : l0_1.length ≤ c0_1) (h : laws_FnExactClassesIn.f k l0_0 l0_1 = some r) :
    Calls Try.prog 7 #[.agg #[.slice A0_0 l0_0.length c0_0, .slice A0_1 l0_1.length c0_1]] w fun e w' => e = .returned (.bool r) ∧ Below w.heap.size w w' := by
  have hul := Try.underlying25
  have hui := Try.underlying34
  unfold laws_FnExactClassesIn.f at h
  obtain ⟨t, ht, h⟩ := Option.bind_eq_some_iff.1 h
  have HSZ : Aside0 (∀ W, Below w.heap.size w W → Calls Try.prog 17 #[.agg #[.slice A0_0 l0_0.length c0_0, .slice A0_1 l0_1.length c0_1], .int .i64 1048576] W fun e w' => e = .returned (.int .i64 t) ∧ Aside0 (Below w.heap.size w w' ∧ Below W.heap.size W w')) :=
    ⟨fun W hW => (laws_szEGraph.calls k A0_0 c0_0 l0_0 A0_1 c0_1 l0_1 1048576 t W (Kd.C_below hr0_0 hW) hc0_0 (Kd.C_below hr0_1 hW) hc0_1 ht).mono fun e w' ⟨h, k⟩ => ⟨h, ⟨below_step hW k, k⟩⟩⟩
  have HB0 := Aside0.mk (Below.refl w.heap.size w)
  by_cases htn : t < 0
  · rw [if_pos htn] at h
    obtain rfl := Option.some.inj h
    have n1 : (t < 0) = True := eq_true htn
    clear h ht hr0_0 hc0_0 hr0_1 hc0_1 htn
    generalize l0_0.length = nn0 at *
    generalize l0_1.length = nn1 at *
    go_enter Try.func7, Try.ntmps7
    go_wp2_with (first | ((with_reducible refine gate_dst (N := 1) rfl ?_); refine box_event ?hg (N := 1) ?hd (cs := #[.slice A0_0 nn0 c0_0, .slice A0_1 nn1 c0_1]) (t := 25) ?hr ?_; (case hd => rfl); (case hg => rfl); (case hr => first | (go_simp; done) | (go_simp; rfl)); intro gp hgp w1 hbox hb; have GP := Aside0.mk hgp; have BP1 := Aside0.mk hbox; have B1 := Aside0.mk hb; have y0 : w1.cell? ⟨gp, 0, none⟩ = some (.slice A0_0 nn0 c0_0) := (blk_cell hbox 0).trans rfl; have y1 : w1.cell? ⟨gp, 1, none⟩ = some (.slice A0_1 nn1 c0_1) := (blk_cell hbox 1).trans rfl; clear hbox hb hgp) | (go_at_call 17; (with_reducible refine (HSZ.out _ B1.out).mono ?_); rintro e w2 ⟨rfl, Z2⟩))
    go_ret
    exact ⟨rfl, Z2.out.1⟩
  · rw [if_neg htn] at h
    obtain ⟨L, hto, h⟩ := Option.bind_eq_some_iff.1 h
    obtain ⟨p, hsp, h⟩ := Option.bind_eq_some_iff.1 h
    obtain ⟨q, him, h⟩ := Option.bind_eq_some_iff.1 h
    obtain ⟨e1, he1, h⟩ := Option.bind_eq_some_iff.1 h
    obtain ⟨e2, he2, h⟩ := Option.bind_eq_some_iff.1 h
    obtain ⟨m, hma, h⟩ := Option.bind_eq_some_iff.1 h
    obtain ⟨hh, hhe, h⟩ := Option.bind_eq_some_iff.1 h
    by_cases hc : (e1 = true ∧ e2 = true ∧ q.2 = p.2) ∧ L.1.length ≤ 100000000 ∧ enW L.1 + L.2.length ≤ 100000000 ∧ 0 ≤ hh ∧ hh = m.1
    · rw [if_pos hc] at h
      obtain rfl := Option.some.inj h
      obtain ⟨⟨rfl, rfl, hq0⟩, hL1, hL2, hh0, hhm⟩ := hc
      obtain ⟨L1, L2⟩ := L
      obtain ⟨p1, pb0⟩ := p
      obtain ⟨q1, qb0⟩ := q
      obtain ⟨m1, m2⟩ := m
      simp only at hq0 hhm he1 he2 hma hhe hsp him hto hL1 hL2
      subst hq0 hhm
      obtain ⟨M, hM⟩ : ∃ M : Nat, M = 1 + enW L1 + L2.length := ⟨_, rfl⟩
      have HTO : Aside0 (∀ W, Below w.heap.size w W → Calls Try.prog 20 #[.agg #[.slice A0_0 l0_0.length c0_0, .slice A0_1 l0_1.length c0_1]] W fun e w' => ∃ A c A' c', e = .returned (.agg #[.slice A L1.length c, .slice A' L2.length c']) ∧ Aside0 ((Kd.S k114 114 w' W.heap.size (fun k => some k ≠ (Value.slice A' L2.length c').ownBlock) (.slice A L1.length c) L1 ∧ Kd.R (Kd.int .i64) 3 w' W.heap.size (fun _ => True) (.slice A' L2.length c') L2) ∧ Below w.heap.size w w' ∧ Below W.heap.size W w')) := by
        refine ⟨fun W hW => (laws_toEGraph.calls k A0_0 c0_0 l0_0 A0_1 c0_1 l0_1 L1 L2 W (Kd.C_below hr0_0 hW) hc0_0 (Kd.C_below hr0_1 hW) hc0_1 hto).mono ?_⟩
        rintro e w' ⟨v, v', rfl, hS, hR, hb⟩
        obtain ⟨A, c, rfl, -, -⟩ := Kd.S_reads hS
        obtain ⟨A', c', rfl, -, -⟩ := Kd.R_reads hR
        exact ⟨A, c, A', c', rfl, ⟨⟨hS, hR⟩, below_step hW hb, hb⟩⟩
      have HSP : Aside0 (∀ W okS okR base A c A' c', Kd.S k114 114 W base okS (.slice A L1.length c) L1 → Kd.R (Kd.int .i64) 3 W base okR (.slice A' L2.length c') L2 → Below w.heap.size w W → Calls Try.prog 44 #[.agg #[.slice A L1.length c, .slice A' L2.length c']] W fun e w' => ∃ v6, e = .returned (.tuple #[v6, .bool qb0]) ∧ Aside0 (Kd.R (Kd.int .i64) 3 w' W.heap.size (fun _ => True) v6 p1 ∧ Below w.heap.size w w' ∧ Below W.heap.size W w')) := by
        refine ⟨fun W okS okR base A c A' c' hS hR hW => ?_⟩
        obtain ⟨_, h1, C1⟩ := Kd.S_reads' hS
        obtain ⟨_, h2, C2⟩ := Kd.R_reads' hR
        exact (spec_ClassesIn.calls k A c L1 A' c' L2 p1 qb0 W C1 h1 C2 h2 hsp).mono fun e w' ⟨v, h1, h2, h3⟩ => ⟨v, h1, ⟨h2, below_step hW h3, h3⟩⟩
      have HIM : Aside0 (∀ W okS okR base A c A' c', Kd.S k114 114 W base okS (.slice A L1.length c) L1 → Kd.R (Kd.int .i64) 3 W base okR (.slice A' L2.length c') L2 → Below w.heap.size w W → Calls Try.prog 45 #[.agg #[.slice A L1.length c, .slice A' L2.length c']] W fun e w' => ∃ v6, e = .returned (.tuple #[v6, .bool qb0]) ∧ Aside0 (Kd.R (Kd.int .i64) 3 w' W.heap.size (fun _ => True) v6 q1 ∧ Below w.heap.size w w' ∧ Below W.heap.size W w')) := by
        refine ⟨fun W okS okR base A c A' c' hS hR hW => ?_⟩
        obtain ⟨_, h1, C1⟩ := Kd.S_reads' hS
        obtain ⟨_, h2, C2⟩ := Kd.R_reads' hR
        exact (impl_ClassesIn.calls k A c L1 A' c' L2 q1 qb0 W C1 h1 C2 h2 him).mono fun e w' ⟨v, h1, h2, h3⟩ => ⟨v, h1, ⟨h2, below_step hW h3, h3⟩⟩
      have HEQ : Aside0 (∀ W gp cs a b v6 v9, HoldClassesIn w W gp cs a b v6 v9 p1 q1 → Calls Try.prog 46 #[v9, v6] W fun e w' => e = .returned (.bool true) ∧ Aside0 (HoldClassesIn w w' gp cs a b v6 v9 p1 q1 ∧ Below W.heap.size W w')) := by
        refine ⟨fun W gp cs a b v6 v9 hH => ?_⟩
        obtain ⟨A6, c6, rfl, h6, C6⟩ := Kd.R_reads hH.r6
        obtain ⟨A9, c9, rfl, h9, C9⟩ := Kd.R_reads hH.r9
        refine (laws_eqIntS.calls k A9 c9 q1 A6 c6 p1 true W C9 h9 C6 h6 he1).mono ?_
        rintro e w' ⟨rfl, hd⟩
        have hd' : Below W.heap.size W w' := by first | exact hd | exact hd.below
        exact ⟨rfl, ⟨hH.step hd', hd'⟩⟩
      have HEQ2 : Aside0 (∀ W gp cs a b v6 v9 v14 b0, HoldClassesIn w W gp cs a b v6 v9 p1 m2 → Kd.R (Kd.int .i64) 3 W b0 (fun _ => True) v14 q1 → Calls Try.prog 46 #[v14, v6] W fun e w' => e = .returned (.bool true) ∧ Aside0 (HoldClassesIn w w' gp cs a b v6 v9 p1 m2)) := by
        refine ⟨fun W gp cs a b v6 v9 v14 b0 hH hR => ?_⟩
        obtain ⟨A6, c6, rfl, h6, C6⟩ := Kd.R_reads hH.r6
        obtain ⟨A9, c9, rfl, h9, C9⟩ := Kd.R_reads hR
        refine (laws_eqIntS.calls k A9 c9 q1 A6 c6 p1 true W C9 h9 C6 h6 he1).mono ?_
        rintro e w' ⟨rfl, hd⟩
        have hd' : Below W.heap.size W w' := by first | exact hd | exact hd.below
        exact ⟨rfl, ⟨hH.step hd'⟩⟩
      have HES : Aside0 (∀ W okS okR base okS' okR' base' A c A1 c1 A' c' A1' c1', Kd.S k114 114 W base okS (.slice A L1.length c) L1 → Kd.R (Kd.int .i64) 3 W base okR (.slice A1 L2.length c1) L2 → Kd.S k114 114 W base' okS' (.slice A' L1.length c') L1 → Kd.R (Kd.int .i64) 3 W base' okR' (.slice A1' L2.length c1') L2 → Calls Try.prog 24 #[.agg #[.slice A L1.length c, .slice A1 L2.length c1], .agg #[.slice A' L1.length c', .slice A1' L2.length c1']] W fun e w' => e = .returned (.bool true) ∧ Aside0 (Below W.heap.size W w')) := by
        refine ⟨fun W okS okR base okS' okR' base' A c A1 c1 A' c' A1' c1' hS hR hS' hR' => ?_⟩
        obtain ⟨_, h1, C1⟩ := Kd.S_reads' hS
        obtain ⟨_, h2, C2⟩ := Kd.R_reads' hR
        obtain ⟨_, h3, C3⟩ := Kd.S_reads' hS'
        obtain ⟨_, h4, C4⟩ := Kd.R_reads' hR'
        exact (laws_eqEGraph.calls k A c L1 A1 c1 L2 A' c' L1 A1' c1' L2 true W C1 h1 C2 h2 C3 h3 C4 h4 he2).mono fun e w' ⟨h, k⟩ => ⟨h, ⟨k⟩⟩
      have HMS : Aside0 (∀ W gp cs a b v6 v9 A c A' c', HoldClassesIn w W gp cs a b v6 v9 p1 q1 → HoldClassesInX w W a b (.slice A L1.length c) (.slice A' L2.length c') L1 L2 → Calls Try.prog 26 #[.agg #[.slice A L1.length c, .slice A' L2.length c'], .int .i64 1] W fun e w' => e = .returned (.int .i64 (M : Int)) ∧ Aside0 (HoldClassesIn w w' gp cs a b v6 v9 p1 q1)) := by
        refine ⟨fun W gp cs a b v6 v9 A c A' c' hH hX => ?_⟩
        have := markEGraph_told (fun k => a ≤ k ∧ k < b) A A' c c' L1 L2 1 w W hH.below hX.s hX.r hL1 (by omega)
        rw [← hM] at this
        refine this.mono ?_
        rintro e w' ⟨rfl, -, h1, h2⟩
        exact ⟨rfl, ⟨hH.kept h2 h1⟩⟩
      have HMA : Aside0 (∀ W gp cs a b v6 v9, HoldClassesIn w W gp cs a b v6 v9 p1 q1 → Calls Try.prog 47 #[v9, .int .i64 1] W fun e w' => e = .returned (.int .i64 hh) ∧ Aside0 (HoldClassesIn w w' gp cs a b v6 v9 p1 m2)) := by
        refine ⟨fun W gp cs a b v6 v9 hH => ?_⟩
        refine (laws_markIntS.calls k _ v9 q1 1 hh m2 w W hH.below hH.r9 hma).mono ?_
        rintro e w' ⟨rfl, h1, h2, h3⟩
        exact ⟨rfl, ⟨hH.mark h3 h1 h2⟩⟩
      have HHE : Aside0 (∀ W gp cs a b v6 v9, HoldClassesIn w W gp cs a b v6 v9 p1 m2 → Calls Try.prog 48 #[v9, .int .i64 1] W fun e w' => e = .returned (.int .i64 hh) ∧ Aside0 (HoldClassesIn w w' gp cs a b v6 v9 p1 m2)) := by
        refine ⟨fun W gp cs a b v6 v9 hH => ?_⟩
        obtain ⟨A9, c9, rfl, h9, C9⟩ := Kd.R_reads hH.r9
        refine (laws_heldIntS.calls k A9 c9 m2 1 hh W C9 h9 hhe).mono ?_
        rintro e w' ⟨rfl, hd⟩
        have hd' : Below W.heap.size W w' := by first | exact hd | exact hd.below
        exact ⟨rfl, ⟨hH.step hd'⟩⟩
      have HST : Aside0 (∀ (w1 w3 w4 w5 w6 W6 w7 : World) (gp : Nat) (cs : Array Value) (v5a v5b v4 v7 : Value), w1.heap[gp]? = some (.cells cs 25 (0, 0)) → Below w1.heap.size w1 w3 → (Kd.R (Kd.int .i64) 3 w4 w3.heap.size (fun _ => True) v4 p1 ∧ Below w.heap.size w w4 ∧ Below w3.heap.size w3 w4) → ((Kd.S k114 114 w5 w4.heap.size (fun k => some k ≠ v5b.ownBlock) v5a L1 ∧ Kd.R (Kd.int .i64) 3 w5 w4.heap.size (fun _ => True) v5b L2) ∧ Below w.heap.size w w5 ∧ Below w4.heap.size w4 w5) → Below w5.heap.size w5 W6 → (Kd.R (Kd.int .i64) 3 w7 W6.heap.size (fun _ => True) v7 q1 ∧ Below w.heap.size w w7 ∧ Below W6.heap.size W6 w7) → Below w.heap.size w w3 → HoldClassesIn w w7 gp cs w4.heap.size w5.heap.size v4 v7 p1 q1 ∧ HoldClassesInX w w7 w4.heap.size w5.heap.size v5a v5b L1 L2) := by
        refine ⟨fun w1 w3 w4 w5 w6 W6 w7 gp cs v5a v5b v4 v7 hbp h13 h4 h5 h56 h7 h3 => ?_⟩
        have b17 : Below w1.heap.size w1 w7 := below_step (below_step (below_step (below_step h13 h4.2.2) h5.2.2) h56) h7.2.2
        have b47 : Below w4.heap.size w4 w7 := below_step (below_step h5.2.2 h56) h7.2.2
        have b57 : Below w5.heap.size w5 w7 := below_step h56 h7.2.2
        refine ⟨⟨h7.2.1, blk_below hbp b17, Nat.lt_of_lt_of_le (blk_lt hbp) (Nat.le_trans h13.size h4.2.2.size), ?_, ?_, h4.2.1.size, h5.2.2.size, b57.size⟩, ⟨?_, ?_⟩⟩
        · exact Kd.R_below (Kd.R_lower (Kd.R_mono (ok' := fun k => k < w4.heap.size) (Kd.R_bound h4.1) (fun k hk => hk.2.2.1)) h3.size) b47
        · exact Kd.R_lower (Kd.R_mono (ok' := fun k => w5.heap.size ≤ k) (Kd.R_bound h7.1) (fun k hk => Nat.le_trans h56.size hk.2.1)) (Nat.le_trans h5.2.1.size h56.size)
        · exact Kd.S_below (Kd.S_lower (Kd.S_mono (Kd.S_bound h5.1.1) (fun k hk => ⟨⟨hk.2.1, hk.2.2.1⟩, hk.1⟩)) h4.2.1.size) b57
        · exact Kd.R_below (Kd.R_lower (Kd.R_mono (Kd.R_bound h5.1.2) (fun k hk => ⟨hk.2.1, hk.2.2.1⟩)) h4.2.1.size) b57
      have n1 : (t < 0) = False := eq_false htn
      have n2 : ((M : Int) < 0) = False := eq_false (by omega)
      have n3 : (hh < 0) = False := eq_false (by omega)
      clear hr0_0 hc0_0 hr0_1 hc0_1 hto hsp him he1 he2 hma hhe hM hL1 hL2 hh0 h ht htn
      generalize L1.length = nL1 at *
      generalize L2.length = nL2 at *
      generalize l0_0.length = nn0 at *
      generalize l0_1.length = nn1 at *
      have tok1 : True := trivial
      go_enter Try.func7, Try.ntmps7
      go_wp2_with (first
        | ((with_reducible refine gate_dst (N := 1) rfl ?_); refine box_event ?hg (N := 1) ?hd (cs := #[.slice A0_0 nn0 c0_0, .slice A0_1 nn1 c0_1]) (t := 25) ?hr ?_; (case hd => rfl); (case hg => rfl); (case hr => first | (go_simp; done) | (go_simp; rfl)); intro gp hgp w1 hbox hb; have GP := Aside0.mk hgp; have BP1 := Aside0.mk hbox; have B1 := Aside0.mk hb; have y0 : w1.cell? ⟨gp, 0, none⟩ = some (.slice A0_0 nn0 c0_0) := (blk_cell hbox 0).trans rfl; have y1 : w1.cell? ⟨gp, 1, none⟩ = some (.slice A0_1 nn1 c0_1) := (blk_cell hbox 1).trans rfl; clear hbox hb hgp)
        | (go_at_call 17; (with_reducible refine (HSZ.out _ B1.out).mono ?_); rintro e w2 ⟨rfl, Z2⟩; replace y0 := pw_cell_below Z2.out.2 y0; replace y1 := pw_cell_below Z2.out.2 y1)
        | (go_at_call 20; have _t := tok1; (with_reducible refine (HTO.out _ Z2.out.1).mono ?_); rintro e w3 ⟨A3, c3, A3', c3', rfl, Z3⟩; replace y0 := pw_cell_below Z3.out.2.2 y0; replace y1 := pw_cell_below Z3.out.2.2 y1; clear _t tok1; have tok2 : True := trivial)
        | (go_at_call 44; (with_reducible refine (HSP.out _ _ _ _ _ _ _ _ Z3.out.1.1 Z3.out.1.2 Z3.out.2.1).mono ?_); rintro e w4 ⟨v4, rfl, Z4⟩; replace y0 := pw_cell_below Z4.out.2.2 y0; replace y1 := pw_cell_below Z4.out.2.2 y1)
        | (go_at_call 20; have _t := tok2; (with_reducible refine (HTO.out _ Z4.out.2.1).mono ?_); rintro e w5 ⟨A5, c5, A5', c5', rfl, Z5⟩; replace y0 := pw_cell_below Z5.out.2.2 y0; replace y1 := pw_cell_below Z5.out.2.2 y1; clear _t tok2; have tok3 : True := trivial)
        | ((with_reducible refine gate_dst (N := 6) rfl ?_); refine box_event ?hg (N := 6) ?hd (cs := #[.slice none 0 0, .slice none 0 0]) (t := 34) ?hr ?_; (case hd => rfl); (case hg => rfl); (case hr => first | (go_simp; done) | (go_simp; rfl)); intro gx hgx w6 hbox hb; have B6 := Aside0.mk hb; have GX := Aside0.mk (show w5.heap.size ≤ gx from Nat.le_of_eq hgx.symm); have x0 : w6.cell? ⟨gx, 0, none⟩ = some (.slice none 0 0) := (blk_cell hbox 0).trans rfl; have x1 : w6.cell? ⟨gx, 1, none⟩ = some (.slice none 0 0) := (blk_cell hbox 1).trans rfl; have f0 := blk_frozen hbox 0; have f1 := blk_frozen hbox 1; have ne1 : gp ≠ gx := (by have := blk_lt BP1.out; have h1 := Z2.out.2.size; have h2 := Z3.out.2.2.size; have h3 := Z4.out.2.2.size; have h4 := Z5.out.2.2.size; omega); have ne2 : gx ≠ gp := (fun h => ne1 h.symm); replace y0 := pw_cell_below hb y0; replace y1 := pw_cell_below hb y1; clear hbox hb hgx)
        | (go_at_call 45; have _t := tok3; have B6' := Aside0.mk (show Below w5.heap.size w5 ((w6.setCell ⟨gx, 0, none⟩ (.slice A5 nL1 c5)).setCell ⟨gx, 1, none⟩ (.slice A5' nL2 c5')) from below_set (below_set B6.out GX.out) GX.out); (with_reducible refine (HIM.out _ _ _ _ _ _ _ _ (Kd.S_below Z5.out.1.1 B6'.out) (Kd.R_below Z5.out.1.2 B6'.out) (below_step Z5.out.2.1 B6'.out)).mono ?_); rintro e w7 ⟨v7, rfl, Z7⟩; have H7 := Aside0.mk (HST.out _ _ _ _ w6 _ _ _ _ _ _ _ _ BP1.out (below_step Z2.out.2 Z3.out.2.2) Z4.out Z5.out B6'.out Z7.out Z3.out.2.1); replace x0 : w7.cell? ⟨gx, 0, none⟩ = some (.slice A5 nL1 c5) := pw_cell_below Z7.out.2.2 (by go_simp); replace x1 : w7.cell? ⟨gx, 1, none⟩ = some (.slice A5' nL2 c5') := pw_cell_below Z7.out.2.2 (by go_simp); replace y0 : w7.cell? ⟨gp, 0, none⟩ = some (.slice A0_0 nn0 c0_0) := pw_cell_below Z7.out.2.2 (by go_simp); replace y1 : w7.cell? ⟨gp, 1, none⟩ = some (.slice A0_1 nn1 c0_1) := pw_cell_below Z7.out.2.2 (by go_simp); clear f0 f1 _t tok3; have tok4 : True := trivial)
        | (go_at_call 46; have _t := tok4; (with_reducible refine (HEQ.out _ _ _ _ _ _ _ H7.out.1).mono ?_); rintro e w8 ⟨rfl, Z8⟩; replace y0 := pw_cell_below Z8.out.2 y0; replace y1 := pw_cell_below Z8.out.2 y1; replace x0 := pw_cell_below Z8.out.2 x0; replace x1 := pw_cell_below Z8.out.2 x1; clear _t tok4; have tok5 : True := trivial))
      first | (go_region_held3 (fun w' => w'.cell? ⟨gp, 0, none⟩ = some (.slice A0_0 nn0 c0_0) ∧ w'.cell? ⟨gp, 1, none⟩ = some (.slice A0_1 nn1 c0_1) ∧ w'.cell? ⟨gx, 0, none⟩ = some (.slice A5 nL1 c5) ∧ w'.cell? ⟨gx, 1, none⟩ = some (.slice A5' nL2 c5')) (first | exact ⟨y0, y1, x0, x1⟩ | (refine ⟨?_, ?_, ?_, ?_⟩ <;> go_keep) | go_keep) (first
        | (go_at_call 20; have _t := tok5; (with_reducible refine (HTO.out _ (Below.drew Z8.out.1.below)).mono ?_); rintro e w9 ⟨A9, c9, A9', c9', rfl, Z9⟩; have hd9 := (show Below w8.heap.size w8 w9 from below_step (Below.drew (Below.refl _ _)) Z9.out.2.2); replace y0 := pw_cell_below hd9 y0; replace y1 := pw_cell_below hd9 y1; replace x0 := pw_cell_below hd9 x0; replace x1 := pw_cell_below hd9 x1; have D9 := Aside0.mk hd9; clear hd9 _t tok5; have tok6 : True := trivial; (try dsimp only))
        | (go_at_call 24; have X9 := Aside0.mk ((H7.out.2.step Z8.out.2).step D9.out); (with_reducible refine (HES.out _ _ _ _ _ _ _ _ _ _ _ _ _ _ _ X9.out.s X9.out.r Z9.out.1.1 Z9.out.1.2).mono ?_); rintro e w10 ⟨rfl, Z10⟩; have H10 := Aside0.mk ((Z8.out.1.step D9.out).step Z10.out); have X10 := Aside0.mk (X9.out.step Z10.out); replace y0 := pw_cell_below Z10.out y0; replace y1 := pw_cell_below Z10.out y1; replace x0 := pw_cell_below Z10.out x0; replace x1 := pw_cell_below Z10.out x1; (try dsimp only)))) | fail
      have tok6 : True := trivial
      go_wp2_with (first
        | (go_at_call 26; (with_reducible refine (HMS.out _ _ _ _ _ _ _ _ _ _ _ H10.out X10.out).mono ?_); rintro e w11 ⟨rfl, H11⟩; clear y0 y1 x0 x1; have y0 := (H11.out.y0 0).trans rfl; have y1 := (H11.out.y0 1).trans rfl; clear tok6; have tok7 : True := trivial)
        | (go_at_call 46; have _t := tok7; (with_reducible refine (HEQ.out _ _ _ _ _ _ _ H11.out).mono ?_); rintro e w12 ⟨rfl, Z12⟩; replace y0 := pw_cell_below Z12.out.2 y0; replace y1 := pw_cell_below Z12.out.2 y1; clear _t tok7; have tok8 : True := trivial)
        | (go_at_call 47; (with_reducible refine (HMA.out _ _ _ _ _ _ _ Z12.out.1).mono ?_); rintro e w13 ⟨rfl, H13⟩; clear y0 y1; have y0 := (H13.out.y0 0).trans rfl; have y1 := (H13.out.y0 1).trans rfl)
        | (go_at_call 48; have _t := tok8; (with_reducible refine (HHE.out _ _ _ _ _ _ _ H13.out).mono ?_); rintro e w14 ⟨rfl, H14⟩; clear y0 y1; have y0 := (H14.out.y0 0).trans rfl; have y1 := (H14.out.y0 1).trans rfl; clear _t tok8; have tok9 : True := trivial)
        | (go_at_call 20; have _t := tok9; (with_reducible refine (HTO.out _ H14.out.below).mono ?_); rintro e w15 ⟨A15, c15, A15', c15', rfl, Z15⟩; clear _t tok9; have tok10 : True := trivial)
        | (go_at_call 45; have _t := tok10; (with_reducible refine (HIM.out _ _ _ _ _ _ _ _ Z15.out.1.1 Z15.out.1.2 Z15.out.2.1).mono ?_); rintro e w16 ⟨v16, rfl, Z16⟩; have H16 := Aside0.mk ((H14.out.step Z15.out.2.2).step Z16.out.2.2); clear _t tok10; have tok11 : True := trivial)
        | (go_at_call 46; have _t := tok11; (with_reducible refine (HEQ2.out _ _ _ _ _ _ _ _ _ H16.out Z16.out.1).mono ?_); rintro e w17 ⟨rfl, H17⟩; clear _t tok11; have tok12 : True := trivial)
        | (go_at_call 48; have _t := tok12; (with_reducible refine (HHE.out _ _ _ _ _ _ _ H17.out).mono ?_); rintro e w18 ⟨rfl, H18⟩; clear _t tok12))
      go_ret
      exact ⟨rfl, H18.out.below⟩
    · rw [if_neg hc] at h
      exact absurd h (by simp)

end Go.Proofs.Ytakblgcheakbnaa.PFnExactClassesIn
