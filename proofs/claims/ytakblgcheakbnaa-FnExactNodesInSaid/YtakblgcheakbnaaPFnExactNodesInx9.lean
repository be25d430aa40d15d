/- Functions of the program and of the reference as plain Lean functions, and what their calls come to; partly printed by a program, partly by hand; no condition beyond what each theorem says. -/
import Derived.Test.YtakblgcheakbnaaPFnExactNodesInx0
import Derived.Test.YtakblgcheakbnaaPFnExactNodesInx1
import Derived.Test.YtakblgcheakbnaaPFnExactNodesInx2
import Derived.Test.YtakblgcheakbnaaPFnExactNodesInx3
import Derived.Test.YtakblgcheakbnaaPFnExactNodesInx6
import Derived.Test.YtakblgcheakbnaaPFnExactNodesInx8
namespace Go.Proofs.Ytakblgcheakbnaa.PFnExactNodesIn
open Go.RowKit Go.Proofs.YtakblgcheakbnaaW.PrintWords Go.Proofs.YtakblgcheakbnaaW.PrintLast Go.Proofs.YtakblgcheakbnaaW.PrintMore
attribute [local go_sem] max2_int min2_int max_two min_two max_three min_three max_four min_four   -- for this text's walks alone
set_option linter.unusedVariables false
set_option linter.unusedSimpArgs false

/-! ### impl_members: function 110 -/
def impl_members.l0 : Nat → Int → List Int → List Int → Int → Int → Option (List Int)
  | 0, _, _, _, _, _ => none
  | k + 1, x1, x5, x9, x10, x11 => if x11 < x10 then (if 0 ≤ x11 then (if x11 < (x9.length : Int) then (if (rd x9 x11) = x1 then (if x5.length < 17592186044416 then (impl_members.l0 k x1 (x5 ++ [x11]) x9 x10 (wrap64 (x11 + 1))) else (none)) else (impl_members.l0 k x1 x5 x9 x10 (wrap64 (x11 + 1)))) else (none)) else (none)) else (some x5)
def impl_members.f (k : Nat) (l0 : List Int) (a1 : Int) : Option (List Int) := impl_members.l0 k a1 (([] : List Int)) l0 (l0.length : Int) 0
theorem impl_members.mono_l : ∀ k, (∀ y0 y1 y2 y3 y4, LeO (impl_members.l0 k y0 y1 y2 y3 y4) (impl_members.l0 (k + 1) y0 y1 y2 y3 y4))
  | 0 => fun _ _ _ _ _ r h => by simp [impl_members.l0] at h
  | k + 1 => by
    have ih0 := impl_members.mono_l k
    · intro y0 y1 y2 y3 y4
      unfold impl_members.l0
      repeat' first
      | (with_reducible exact ih0 _ _ _ _ _)
      | (with_reducible exact LeO.refl _)
      | (with_reducible exact LeO.none _)
      | (with_reducible refine LeO.ite ?_ ?_)
      | (with_reducible refine LeO.bind ?_ (fun _ => ?_))
      | exact ih0 _ _ _ _ _
      | exact LeO.none _
      | refine LeO.ite ?_ ?_
      | refine LeO.bind ?_ (fun _ => ?_)
theorem impl_members.mono : ∀ a0 a1 k, LeO (impl_members.f k a0 a1) (impl_members.f (k + 1) a0 a1) := by
  intro a0 a1 k
  have ih0 := impl_members.mono_l k
  unfold impl_members.f
  repeat' first
      | (with_reducible exact ih0 _ _ _ _ _)
      | (with_reducible exact LeO.refl _)
      | (with_reducible exact LeO.none _)
      | (with_reducible refine LeO.ite ?_ ?_)
      | (with_reducible refine LeO.bind ?_ (fun _ => ?_))
      | exact ih0 _ _ _ _ _
      | exact LeO.none _
      | refine LeO.ite ?_ ?_
      | refine LeO.bind ?_ (fun _ => ?_)
set_option maxHeartbeats 8000000 in
set_option maxRecDepth 100000 in
theorem impl_members.calls (k : Nat) (A0 : Option Addr) (c0 : Nat) (l0 : List Int) (a1 : Int) (r : List Int) (w : World) (hr0 : Kd.C (Kd.int .i64) w A0 l0.length l0) (hc0 : l0.length ≤ c0) (h : impl_members.f k l0 a1 = some r) :
    Calls Try.prog 110 #[.slice A0 l0.length c0, .int .i64 a1] w fun e w' => ∃ v0_ : Value, e = .returned (v0_) ∧ Kd.R (Kd.int .i64) 3 w' w.heap.size (fun _ => True) v0_ r ∧ Below w.heap.size w w' := by
  have HR0 := Aside0.mk hr0
  have HC0 := Aside0.mk hc0
  clear hr0 hc0
  have HB := Aside0.mk (Below.refl w.heap.size w)
  have H : (impl_members.l0 k a1 (([] : List Int)) l0 (l0.length : Int) 0) = some r := h
  clear h
  obtain ⟨y218, hy218⟩ : ∃ y_ : List Int, y_ = (([] : List Int)) := ⟨_, rfl⟩
  replace H : (impl_members.l0 k a1 y218 l0 (l0.length : Int) 0) = some r := by first | (rw [hy218]; with_reducible exact H) | (have H2_ := (Option.bind_some _ _).symm.trans H; rw [hy218]; with_reducible exact H2_) | (have H2_ := (Option.bind_some _ _).symm.trans H; with_reducible exact H2_) | with_reducible exact H | (rw [hy218]; exact H) | exact H
  have Ny218 := Aside0.mk hy218
  clear hy218
  have H' := Aside0.mk H
  clear H
  go_enter Try.func110, Try.ntmps110
  go_wp2_with (first | ((with_reducible refine gate_dst (N := 8) rfl ?_); refine Kd.R_lit (Kd.int .i64) _ 3 ?hg (N := 8) ?hd (xs := ([] : List Int)) (inner := []) (ok := fun _ => True) (okp := fun _ => True) ?hr ?hp (fun _ hk => hk) trivial (Below.refl _ _) (Nat.le_refl _) (by simp) ?_; (case hd => rfl); (case hg => rfl); (case hr => first | (go_simp; done) | (go_simp; rfl)); (case hp => exact (Reps.none _ _)); intro v219 w3 ho4 hb hg_ hnew_; clear hg_ hnew_; (first | rw [← Ny218.out] at ho4 | (simp only [Int.reduceToNat] at ho4; rw [← Ny218.out] at ho4)); have n0_ := Aside0.mk (Kd.R_lower ho4 (below_size (by repeat (first | (with_reducible first | exact HB.out | apply below_alloc | apply pw_below_drewN | apply below_drew1) | exact HB.out)))); have n1_ := Aside0.mk (below_step (by repeat (first | (with_reducible first | exact HB.out | apply below_alloc | apply pw_below_drewN | apply below_drew1) | exact HB.out)) hb); clear HB; have HO220 := n0_; have HB := n1_; clear n0_ n1_; clear hb ho4))
  go_loopg [5, 11] k (fun kq v5 v11 w' => ∃ (x5_1 : List Int) (x11_1 : Int), v11 = .int .i64 x11_1 ∧ Aside0 (impl_members.l0 kq a1 x5_1 l0 (l0.length : Int) x11_1 = some r) ∧ Aside0 (kq ≤ k) ∧ Aside0 (Kd.R (Kd.int .i64) 3 w' w.heap.size (fun _ => True) v5 x5_1) ∧ Aside0 (Below w.heap.size w w'))
  case atStart => exact ⟨(y218), (0), (by first | rfl | (simp; done) | (simp [*]; done)), H', ⟨Nat.le_refl _⟩, ⟨by (with_reducible repeat (first | apply Kd.R_alloc | apply Kd.R_drewN | apply Kd.R_drew)); exact HO220.out⟩, ⟨by repeat (first | (with_reducible first | exact HB.out | apply below_alloc | apply pw_below_drewN | apply below_drew1) | exact HB.out)⟩⟩
  case round =>
    clear H'
    try clear c1
    try clear p2
    obtain ⟨x5_1, x11_1, rfl, HA, HK1, HO_5, HB⟩ := hrel
    cases gk with
    | zero => exact absurd HA.out (by simp [impl_members.l0])
    | succ k1 =>
      have H := HA.out
      clear HA
      simp only [impl_members.l0] at H
      by_cases c5 : x11_1 < (l0.length : Int)
      · rw [if_pos c5] at H
        have c5b0 : decide (x11_1 < (l0.length : Int)) = true := decide_eq_true c5
        clear c5
        by_cases c6 : 0 ≤ x11_1
        · rw [if_pos c6] at H
          have c6b0 : decide (0 ≤ x11_1) = true := decide_eq_true c6
          clear c6
          by_cases c7 : x11_1 < (l0.length : Int)
          · rw [if_pos c7] at H
            have c7b0 : decide (x11_1 < (l0.length : Int)) = true := decide_eq_true c7
            clear c7
            by_cases c8 : (rd l0 x11_1) = a1
            · rw [if_pos c8] at H
              have c8b0 : ((rd l0 x11_1) == a1) = true := beq_iff_eq.mpr c8
              have c8b1 : ((rd l0 x11_1) != a1) = false := bne_eq_false_iff_eq.mpr c8
              clear c8
              by_cases c9 : x5_1.length < 17592186044416
              · rw [if_pos c9] at H
                have LMc9 := Aside0.mk c9
                clear c9
                obtain ⟨y222, hy222⟩ : ∃ y_ : List Int, y_ = (x5_1 ++ [x11_1]) := ⟨_, rfl⟩
                replace H : (impl_members.l0 k1 a1 y222 l0 (l0.length : Int) (wrap64 (x11_1 + 1))) = some r := by first | (rw [hy222]; with_reducible exact H) | (have H2_ := (Option.bind_some _ _).symm.trans H; rw [hy222]; with_reducible exact H2_) | (have H2_ := (Option.bind_some _ _).symm.trans H; with_reducible exact H2_) | with_reducible exact H | (rw [hy222]; exact H) | exact H
                have Ny222 := Aside0.mk hy222
                clear hy222
                have H' := Aside0.mk H
                clear H
                have p221 : 0 ≤ (x11_1 : Int) := of_decide_eq_true (by first | (with_reducible assumption) | assumption)
                have q221 : x11_1 < (l0.length : Int) := of_decide_eq_true (by first | (with_reducible assumption) | assumption)
                obtain ⟨ad221, e221, hx221_0⟩ := Kd.at_int HR0.out x11_1 p221 q221
                cases e221
                replace hx221_0 := (HB.out.cell (World.block_lt_of_cell? w _ hx221_0)).trans hx221_0
                replace p221 := eq_true p221
                replace q221 := eq_true q221
                go_wp2_with (first | ((with_reducible refine gate_builtin (b := .append) (xs := #[.tmp 19, .tmp 21]) rfl ?_); at_builtin; refine Kd.R_append (Kd.int .i64) (w0 := w) w.heap.size rfl (.tmp 19) (.tmp 21) 23 3 (.int .i64 0) 8 rfl Try.underlying23 info3 rfl (by decide) (by omega) u5 x5_1 x11_1 [.int .i64 x11_1] (fun _ => True) (fun _ => False) rfl rfl ?aP (fun _ hk => hk.elim) ?aF ?aO ?aB ?aS ?aL ?_; (case aP => exact rfl); (case aB => exact (by repeat (first | (with_reducible first | exact HB.out | apply below_alloc | apply pw_below_drewN | apply below_drew1) | exact HB.out))); (case aF => exact (fun _ _ => trivial)); (case aO => exact (by (with_reducible repeat (first | apply Kd.R_alloc | apply Kd.R_drewN | apply Kd.R_drew)); exact HO_5.out)); (case aS => exact (below_size (by repeat (first | (with_reducible first | exact HB.out | apply below_alloc | apply pw_below_drewN | apply below_drew1) | exact HB.out)))); (case aL => have := LMc9.out; omega); intro v223 w10 ho hb hg hat; rw [← Ny222.out] at ho; have n0_ := Aside0.mk (hb); have n1_ := Aside0.mk (ho); clear HB; clear HO_5; have HB := n0_; have HO224 := n1_; clear n0_ n1_; clear ho hb hg hat))
                go_roundg k1
                case measure => have := HK1.out; omega
                case rel => exact ⟨(y222), (wrap64 (x11_1 + 1)), (by first | rfl | (simp; done) | (simp [*]; done)), H', ⟨by have := HK1.out; omega⟩, ⟨by (with_reducible repeat (first | apply Kd.R_alloc | apply Kd.R_drewN | apply Kd.R_drew)); exact HO224.out⟩, ⟨by repeat (first | (with_reducible first | exact HB.out | apply below_alloc | apply pw_below_drewN | apply below_drew1) | exact HB.out)⟩⟩
              · rw [if_neg c9] at H
                exact absurd H (by simp)
            · rw [if_neg c8] at H
              have c8b0 : ((rd l0 x11_1) == a1) = false := beq_eq_false_iff_ne.mpr c8
              have c8b1 : ((rd l0 x11_1) != a1) = true := bne_iff_ne.mpr c8
              have H' := Aside0.mk H
              clear H
              have p221 : 0 ≤ (x11_1 : Int) := of_decide_eq_true (by first | (with_reducible assumption) | assumption)
              have q221 : x11_1 < (l0.length : Int) := of_decide_eq_true (by first | (with_reducible assumption) | assumption)
              obtain ⟨ad221, e221, hx221_0⟩ := Kd.at_int HR0.out x11_1 p221 q221
              cases e221
              replace hx221_0 := (HB.out.cell (World.block_lt_of_cell? w _ hx221_0)).trans hx221_0
              replace p221 := eq_true p221
              replace q221 := eq_true q221
              go_wp2
              go_roundg k1
              case measure => have := HK1.out; omega
              case rel => exact ⟨(x5_1), (wrap64 (x11_1 + 1)), (by first | rfl | (simp; done) | (simp [*]; done)), H', ⟨by have := HK1.out; omega⟩, ⟨by (with_reducible repeat (first | apply Kd.R_alloc | apply Kd.R_drewN | apply Kd.R_drew)); exact HO_5.out⟩, ⟨by repeat (first | (with_reducible first | exact HB.out | apply below_alloc | apply pw_below_drewN | apply below_drew1) | exact HB.out)⟩⟩
          · rw [if_neg c7] at H
            exact absurd H (by simp)
        · rw [if_neg c6] at H
          exact absurd H (by simp)
      · rw [if_neg c5] at H
        have c5b0 : decide (x11_1 < (l0.length : Int)) = false := decide_eq_false c5
        clear c5
        obtain rfl := Option.some.inj H
        go_wp2
        go_ret
        exact ⟨_, by first | rfl | (simp [errW_none, errW_some] <;> rfl) | (simp [*, errW_none, errW_some] <;> rfl), by (with_reducible repeat (first | apply Kd.R_alloc | apply Kd.R_drewN | apply Kd.R_drew)); exact HO_5.out, by repeat (first | (with_reducible first | exact HB.out | apply below_alloc | apply pw_below_drewN | apply below_drew1) | exact HB.out)⟩

/-! ### impl_NodesIn: function 50 -/
def impl_NodesIn.f (k : Nat) (l0_0 : List (S114)) (l0_1 : List Int) (a1 : Int) : Option (List Int × Bool) := (impl_GoodGraph.f k l0_0 l0_1).bind fun t226 => (if t226 = true then ((impl_within.f a1 0 (wrap64 ((l0_0.length : Int) - 1))).bind fun t227 => (if t227 = true then (if 0 ≤ a1 then (if a1 < (l0_1.length : Int) then ((impl_members.f k l0_1 (rd l0_1 a1)).bind fun t229 => (some (t229, true))) else (none)) else (none)) else (some (([] : List Int), false)))) else (some (([] : List Int), false)))
theorem impl_NodesIn.mono : ∀ a0 a1 a2 k, LeO (impl_NodesIn.f k a0 a1 a2) (impl_NodesIn.f (k + 1) a0 a1 a2) := by
  intro a0 a1 a2 k
  unfold impl_NodesIn.f
  repeat' first
      | (with_reducible exact impl_GoodGraph.mono _ _ _)
      | (with_reducible exact impl_members.mono _ _ _)
      | (with_reducible exact LeO.refl _)
      | (with_reducible exact LeO.none _)
      | (with_reducible refine LeO.ite ?_ ?_)
      | (with_reducible refine LeO.bind ?_ (fun _ => ?_))
      | exact impl_GoodGraph.mono _ _ _
      | exact impl_members.mono _ _ _
      | exact LeO.none _
      | refine LeO.ite ?_ ?_
      | refine LeO.bind ?_ (fun _ => ?_)
def impl_NodesIn.T3 : Bool × List (List Nat × List Nat) := (true, [([], []), ([0], [0]), ([], []), ([2], [2]), ([], []), ([3, 4], [3, 4]), ([5], [5]), ([1, 6], [1, 6]), ([7, 7, 0, 1, 2, 3, 4, 5, 6, 7], [7]), ([8, 0, 1, 2, 3, 4, 5, 6, 7, 8], [])])
def impl_NodesIn.B3 : List Nat := [0, 1, 0, 4, 0, 28, 60, 127, 255, 511]
theorem impl_NodesIn.tab3 : rtab .any (opsOf Try.f50 3) = impl_NodesIn.T3 := by kernel_rfl
theorem impl_NodesIn.bits3 : waitsOk impl_NodesIn.T3.2 impl_NodesIn.B3 = true := by kernel_rfl
set_option maxHeartbeats 8000000 in
set_option maxRecDepth 100000 in
theorem impl_NodesIn.calls (k : Nat) (A0_0 : Option Addr) (c0_0 : Nat) (l0_0 : List (S114)) (A0_1 : Option Addr) (c0_1 : Nat) (l0_1 : List Int) (a1 : Int) (r1 : List Int) (r2 : Bool) (w : World) (hr0_0 : Kd.C k114 w A0_0 l0_0.length l0_0) (hc0_0 : l0_0.length ≤ c0_0) (hr0_1 : Kd.C (Kd.int .i64) w A0_1 l0_1.length l0_1) (hc0_1 : l0_1.length ≤ c0_1) (h : impl_NodesIn.f k l0_0 l0_1 a1 = some (r1, r2)) :
    Calls Try.prog 50 #[.agg #[.slice A0_0 l0_0.length c0_0, .slice A0_1 l0_1.length c0_1], .int .i64 a1] w fun e w' => ∃ v0_ : Value, e = .returned (.tuple #[v0_, .bool r2]) ∧ Kd.R (Kd.int .i64) 3 w' w.heap.size (fun _ => True) v0_ r1 ∧ Below w.heap.size w w' := by
  have hu34 := Try.underlying34
  have HR0_0 := Aside0.mk hr0_0
  have HC0_0 := Aside0.mk hc0_0
  clear hr0_0 hc0_0
  have HR0_1 := Aside0.mk hr0_1
  have HC0_1 := Aside0.mk hc0_1
  clear hr0_1 hc0_1
  have HB := Aside0.mk (Below.refl w.heap.size w)
  have H : ((impl_GoodGraph.f k l0_0 l0_1).bind fun t226 => (if t226 = true then ((impl_within.f a1 0 (wrap64 ((l0_0.length : Int) - 1))).bind fun t227 => (if t227 = true then (if 0 ≤ a1 then (if a1 < (l0_1.length : Int) then ((impl_members.f k l0_1 (rd l0_1 a1)).bind fun t229 => (some (t229, true))) else (none)) else (none)) else (some (([] : List Int), false)))) else (some (([] : List Int), false)))) = some (r1, r2) := h
  clear h
  replace H := Option.bind_eq_some_iff.mp H
  obtain ⟨t226, A30, H⟩ := H
  replace H : (if t226 = true then ((impl_within.f a1 0 (wrap64 ((l0_0.length : Int) - 1))).bind fun t227 => (if t227 = true then (if 0 ≤ a1 then (if a1 < (l0_1.length : Int) then ((impl_members.f k l0_1 (rd l0_1 a1)).bind fun t229 => (some (t229, true))) else (none)) else (none)) else (some (([] : List Int), false)))) else (some (([] : List Int), false))) = some (r1, r2) := H
  have A3 := Aside0.mk A30
  clear A30
  by_cases c4 : t226 = true
  · subst c4
    have H1 : ((impl_within.f a1 0 (wrap64 ((l0_0.length : Int) - 1))).bind fun t227 => (if t227 = true then (if 0 ≤ a1 then (if a1 < (l0_1.length : Int) then ((impl_members.f k l0_1 (rd l0_1 a1)).bind fun t229 => (some (t229, true))) else (none)) else (none)) else (some (([] : List Int), false)))) = some (r1, r2) := by rw [if_pos rfl] at H; exact H
    clear H
    have H := H1
    clear H1
    replace H := Option.bind_eq_some_iff.mp H
    obtain ⟨t227, A50, H⟩ := H
    replace H : (if t227 = true then (if 0 ≤ a1 then (if a1 < (l0_1.length : Int) then ((impl_members.f k l0_1 (rd l0_1 a1)).bind fun t229 => (some (t229, true))) else (none)) else (none)) else (some (([] : List Int), false))) = some (r1, r2) := H
    have A5 := Aside0.mk A50
    clear A50
    by_cases c6 : t227 = true
    · subst c6
      have H1 : (if 0 ≤ a1 then (if a1 < (l0_1.length : Int) then ((impl_members.f k l0_1 (rd l0_1 a1)).bind fun t229 => (some (t229, true))) else (none)) else (none)) = some (r1, r2) := by rw [if_pos rfl] at H; exact H
      clear H
      have H := H1
      clear H1
      by_cases c7 : 0 ≤ a1
      · rw [if_pos c7] at H
        have c7b0 : decide (0 ≤ a1) = true := decide_eq_true c7
        clear c7
        by_cases c8 : a1 < (l0_1.length : Int)
        · rw [if_pos c8] at H
          have c8b0 : decide (a1 < (l0_1.length : Int)) = true := decide_eq_true c8
          clear c8
          replace H := Option.bind_eq_some_iff.mp H
          obtain ⟨t229, A90, H⟩ := H
          replace H : (some (t229, true)) = some (r1, r2) := H
          have A9 := Aside0.mk A90
          clear A90
          simp only [Option.some.injEq, Prod.mk.injEq] at H
          obtain ⟨rfl, rfl⟩ := H
          go_enter Try.func50, Try.ntmps50
          try go_wp2_with (first | ((with_reducible refine gate_dst (N := 2) rfl ?_); (try (refine gate_guard (by rfl) ?_; dsimp only)); refine box_event ?hg (N := 2) ?hd (cs := #[.slice A0_0 l0_0.length c0_0, .slice A0_1 l0_1.length c0_1]) (t := 34) ?hr ?_; (case hd => rfl); (case hg => rfl); (case hr => first | (go_simp; done) | (go_simp; rfl)); intro gb225 hg w10 hbox hb; have n0_ := Aside0.mk (below_step (by repeat (first | (with_reducible first | exact HB.out | apply below_alloc | apply pw_below_drewN | apply below_drew1) | exact HB.out)) hb); have n1_ := Aside0.mk (hbox); have n2_ := Aside0.mk ((by rw [hg]; exact (below_size (by repeat (first | (with_reducible first | exact HB.out | apply below_alloc | apply pw_below_drewN | apply below_drew1) | exact HB.out))) : w.heap.size ≤ gb225)); have n3_ := Aside0.mk ((by rw [hg]; exact (below_size (by repeat (first | (with_reducible first | exact HB.out | apply below_alloc | apply pw_below_drewN | apply below_drew1) | exact HB.out))) : w.heap.size ≤ gb225)); clear HB; have HB := n0_; have BK225 := n1_; have GW225 := n2_; have GE225 := n3_; clear n0_ n1_ n2_ n3_; clear hb hbox hg; have hcz11_0 : w10.cell? ⟨gb225, 0, none⟩ = some (.slice A0_0 l0_0.length c0_0) := (blk_cell BK225.out 0).trans rfl; have hcz11_1 : w10.cell? ⟨gb225, 1, none⟩ = some (.slice A0_1 l0_1.length c0_1) := (blk_cell BK225.out 1).trans rfl; have hfz11_0 := blk_frozen BK225.out 0; have hfz11_1 := blk_frozen BK225.out 1) | ((with_reducible refine gate_callee (f := 36) rfl ?_); refine goesL_ (some 7) rfl rfl Try.func36 (by kernel_rfl) rfl #[.agg #[.slice A0_0 l0_0.length c0_0, .slice A0_1 l0_1.length c0_1]] rfl (by (try simp only [List.map_toArray, List.map_cons, List.map_nil]); first | done | rfl | (simp only [List.length_drop, List.length_take]; rfl)) ?_; (with_reducible refine (impl_GoodGraph.calls k _ _ l0_0 _ _ l0_1 true _ ?side1 ?side2 ?side3 ?side4 A3.out).mono ?_); (case side1 => repeat (first | exact (Kd.C_below HR0_0.out HB.out) | (with_reducible refine Kd.C_alloc ?_ _) | (with_reducible refine Kd.C_drewN ?_ _) | (with_reducible refine Kd.C_drew ?_))); (case side2 => exact HC0_0.out); (case side3 => repeat (first | exact (Kd.C_below HR0_1.out HB.out) | (with_reducible refine Kd.C_alloc ?_ _) | (with_reducible refine Kd.C_drewN ?_ _) | (with_reducible refine Kd.C_drew ?_))); (case side4 => exact HC0_1.out); rintro e w12 ⟨rfl, hb⟩; refine ⟨_, rfl, ?_⟩; have n0_ := Aside0.mk (blk_below (g := gb225) (o := .cells #[.slice A0_0 l0_0.length c0_0, .slice A0_1 l0_1.length c0_1] 34 (0, 0)) (by (with_reducible repeat (first | refine blk_drewN ?_ _ | refine blk_drew ?_ | refine blk_alloc ?_ _)); exact BK225.out) hb); have n1_ := Aside0.mk (below_step (by repeat (first | (with_reducible first | exact HB.out | apply below_alloc | apply pw_below_drewN | apply below_drew1 | refine below_set ?_ GE225.out) | exact HB.out)) hb); clear BK225; clear HB; have BK225 := n0_; have HB := n1_; clear n0_ n1_; (try clear hb); (try clear hb2); (try clear hk); (try clear hi); have hcz13_0 : w12.cell? ⟨gb225, 0, none⟩ = some (.slice A0_0 l0_0.length c0_0) := (blk_cell BK225.out 0).trans rfl; have hcz13_1 : w12.cell? ⟨gb225, 1, none⟩ = some (.slice A0_1 l0_1.length c0_1) := (blk_cell BK225.out 1).trans rfl; have hfz13_0 := blk_frozen BK225.out 0; have hfz13_1 := blk_frozen BK225.out 1) | (go_at_call 99; (with_reducible refine (impl_within.calls a1 0 (wrap64 ((l0_0.length : Int) - 1)) true _ A5.out).mono ?_); rintro e w' ⟨rfl, ⟨nd, rfl⟩⟩))
          (try (rw [drewN_self w12]; generalize hq_ : World.drewN w12 _ = w12; have n0_ : Aside0 (w12.heap[gb225]? = some (.cells #[.slice A0_0 l0_0.length c0_0, .slice A0_1 l0_1.length c0_1] 34 (0, 0))) := ⟨by rw [← hq_]; exact (by (with_reducible repeat (first | refine blk_drewN ?_ _ | refine blk_drew ?_ | refine blk_alloc ?_ _)); exact BK225.out)⟩; have n1_ : Aside0 (Below w.heap.size w w12) := ⟨by rw [← hq_]; exact (by repeat (first | (with_reducible first | exact HB.out | apply below_alloc | apply pw_below_drewN | apply below_drew1 | refine below_set ?_ GE225.out) | exact HB.out))⟩; clear BK225 HB hq_; have BK225 := n0_; have HB := n1_; clear n0_ n1_))
          have n0_ := Aside0.mk (blk_drew BK225.out)
          have n1_ := Aside0.mk (below_drew1 HB.out)
          clear BK225
          clear HB
          have BK225 := n0_
          have HB := n1_
          clear n0_ n1_
          have p228 : 0 ≤ (a1 : Int) := of_decide_eq_true (by first | (with_reducible assumption) | assumption)
          have q228 : a1 < (l0_1.length : Int) := of_decide_eq_true (by first | (with_reducible assumption) | assumption)
          obtain ⟨ad228, e228, hx228_0⟩ := Kd.at_int HR0_1.out a1 p228 q228
          have hw228_0 := hx228_0
          cases e228
          replace hx228_0 := (HB.out.cell (World.block_lt_of_cell? w _ hx228_0)).trans hx228_0
          replace p228 := eq_true p228
          replace q228 := eq_true q228
          refine start_ (n := 10) (S := fun w' => w'.cell? ⟨gb225, 0, none⟩ = some (.slice A0_0 l0_0.length c0_0) ∧ w'.cell? ⟨gb225, 1, none⟩ = some (.slice (some ad228) l0_1.length c0_1) ∧ w'.cell? (ad228.add (a1).toNat) = some (.int .i64 (rd l0_1 a1))) (ds := []) #[false, false, false, false, false, false, false, false, false, false] (by kernel_rfl) rfl rfl ⟨(blk_cell BK225.out 0).trans rfl, (blk_cell BK225.out 1).trans rfl, ((HB.out.cell (World.block_lt_of_cell? w _ hw228_0)).trans hw228_0)⟩ (fun hHeld => ?_); refine with_tabW impl_NodesIn.tab3 impl_NodesIn.bits3 (fun HT_ HW_ => ?_)
          generalize w12.drew = w14 at BK225 HB hx228_0 hHeld ⊢
          refine pure_ (i := 0) (N := some 18) (v := ?_) (a' := ?_) #[true, false, false, false, false, false, false, false, false, false] rfl rfl (any_of HT_.out (by kernel_rfl)) (fun _ _ _ h => h) (Or.inl ⟨by rfl, ?_⟩) ?_ ?_
          rotate_left
          · intro w'
            go_simp
            with_reducible rfl
          rotate_left
          · simp only [Act.put, List.setIfInBounds_toArray, List.set_cons_zero, List.set_cons_succ, i64_w, i32_w]
            rfl
          refine pure_ (i := 2) (N := some 20) (v := ?_) (a' := ?_) #[true, false, true, false, false, false, false, false, false, false] rfl rfl (any_of HT_.out (by kernel_rfl)) (fun _ _ _ h => h) (Or.inl ⟨by rfl, ?_⟩) ?_ ?_
          rotate_left
          · intro w'
            go_simp
            with_reducible rfl
          rotate_left
          · simp only [Act.put, List.setIfInBounds_toArray, List.set_cons_zero, List.set_cons_succ, i64_w, i32_w]
            rfl
          refine pure_ (i := 4) (N := some 22) (v := ?_) (a' := ?_) #[true, false, true, false, true, false, false, false, false, false] rfl rfl (any_of HT_.out (by kernel_rfl)) (fun _ _ _ h => h) (Or.inl ⟨by rfl, ?_⟩) ?_ ?_
          rotate_left
          · intro w'
            go_simp
            with_reducible rfl
          rotate_left
          · simp only [Act.put, List.setIfInBounds_toArray, List.set_cons_zero, List.set_cons_succ, i64_w, i32_w]
            rfl
          refine take_ (i := 1) (N := some 19) (v := ?_) (a' := ?_) #[true, true, true, false, true, false, false, false, false, false] rfl rfl (take_ofW HT_.out HW_.out (by kernel_rfl)) (fun _ _ _ h => h) (Or.inl ⟨by rfl, ?_⟩) hHeld ?_ ?_
          rotate_left
          · rintro w' ⟨s0, s1, s2⟩
            go_simp
            with_reducible rfl
          rotate_left
          · simp only [Act.put, List.setIfInBounds_toArray, List.set_cons_zero, List.set_cons_succ, i64_w, i32_w]
            rfl
          refine take_ (i := 3) (N := some 21) (v := ?_) (a' := ?_) #[true, true, true, true, true, false, false, false, false, false] rfl rfl (take_ofW HT_.out HW_.out (by kernel_rfl)) (fun _ _ _ h => h) (Or.inl ⟨by rfl, ?_⟩) hHeld ?_ ?_
          rotate_left
          · rintro w' ⟨s0, s1, s2⟩
            go_simp
            with_reducible rfl
          rotate_left
          · simp only [Act.put, List.setIfInBounds_toArray, List.set_cons_zero, List.set_cons_succ, i64_w, i32_w]
            rfl
          refine pure_ (i := 5) (N := some 23) (v := ?_) (a' := ?_) #[true, true, true, true, true, true, false, false, false, false] rfl rfl (any_of HT_.out (by kernel_rfl)) (fun _ _ _ h => h) (Or.inl ⟨by rfl, ?_⟩) ?_ ?_
          rotate_left
          · intro w'
            go_simp
            with_reducible rfl
          rotate_left
          · simp only [Act.put, List.setIfInBounds_toArray, List.set_cons_zero, List.set_cons_succ, i64_w, i32_w]
            rfl
          refine take_ (i := 6) (N := some 24) (v := ?_) (a' := ?_) #[true, true, true, true, true, true, true, false, false, false] rfl rfl (take_ofW HT_.out HW_.out (by kernel_rfl)) (fun _ _ _ h => h) (Or.inl ⟨by rfl, ?_⟩) hHeld ?_ ?_
          rotate_left
          · rintro w' ⟨s0, s1, s2⟩
            go_simp
            with_reducible rfl
          rotate_left
          · simp only [Act.put, List.setIfInBounds_toArray, List.set_cons_zero, List.set_cons_succ, i64_w, i32_w]
            rfl
          refine one_ (i := 7) (N := some 25) #[true, true, true, true, true, true, true, true, false, false] rfl rfl (one_of HT_.out (by kernel_rfl)) (by decide) (fun K hK => ?_)
          refine goes_ Try.func110 (by kernel_rfl) rfl #[.slice (some ad228) l0_1.length c0_1, .int .i64 (rd l0_1 a1)] (by rfl) rfl rfl (by (try simp only [List.map_toArray, List.map_cons, List.map_nil]); first | done | rfl | (simp only [List.length_drop, List.length_take]; rfl)) ?_
          with_reducible refine (impl_members.calls k _ _ l0_1 (rd l0_1 a1) t229 _ ?side1 ?side2 A9.out).mono ?_
          (case side1 => repeat (first | exact (Kd.C_below HR0_1.out HB.out) | (with_reducible refine Kd.C_alloc ?_ _) | (with_reducible refine Kd.C_drewN ?_ _) | (with_reducible refine Kd.C_drew ?_)))
          (case side2 => exact HC0_1.out)
          rintro e w15 ⟨v230, rfl, ho0, hb⟩
          refine ⟨_, rfl, ?_⟩
          have n0_ := Aside0.mk (Kd.R_lower ho0 (below_size (by repeat (first | (with_reducible first | exact HB.out | apply below_alloc | apply pw_below_drewN | apply below_drew1 | refine below_set ?_ GE225.out) | exact HB.out))))
          have n1_ := Aside0.mk (blk_below (g := gb225) (o := .cells #[.slice A0_0 l0_0.length c0_0, .slice (some ad228) l0_1.length c0_1] 34 (0, 0)) (by (with_reducible repeat (first | refine blk_drewN ?_ _ | refine blk_drew ?_ | refine blk_alloc ?_ _)); exact BK225.out) hb)
          have n2_ := Aside0.mk (below_step (by repeat (first | (with_reducible first | exact HB.out | apply below_alloc | apply pw_below_drewN | apply below_drew1 | refine below_set ?_ GE225.out) | exact HB.out)) hb)
          clear BK225
          clear HB
          have HO231 := n0_
          have BK225 := n1_
          have HB := n2_
          clear n0_ n1_ n2_
          (try clear hb)
          (try clear hb2)
          (try clear hk)
          (try clear hi)
          (try clear ho0)
          refine hK.out _ _ ⟨(blk_cell BK225.out 0).trans rfl, (blk_cell BK225.out 1).trans rfl, ((HB.out.cell (World.block_lt_of_cell? w _ hw228_0)).trans hw228_0)⟩ (fun hHeld => ?_)
          clear hK K
          refine norm_ (a' := ?_) ?_ ?_
          rotate_left
          · show Act.put _ (some 25) _ = _
            simp only [Act.put, List.setIfInBounds_toArray, List.set_cons_zero, List.set_cons_succ, i64_w, i32_w]
            rfl
          refine pure_ (i := 8) (N := some 4) (v := ?_) (a' := ?_) #[true, true, true, true, true, true, true, true, true, false] rfl rfl (any_of HT_.out (by kernel_rfl)) (fun _ _ _ h => h) (Or.inl ⟨by rfl, ?_⟩) ?_ ?_
          rotate_left
          · intro w'
            go_simp
            with_reducible rfl
          rotate_left
          · simp only [Act.put, List.setIfInBounds_toArray, List.set_cons_zero, List.set_cons_succ, i64_w, i32_w]
            rfl
          refine pure_ (i := 9) (N := some 5) (v := ?_) (a' := ?_) #[true, true, true, true, true, true, true, true, true, true] rfl rfl (any_of HT_.out (by kernel_rfl)) (fun _ _ _ h => h) (Or.inl ⟨by rfl, ?_⟩) ?_ ?_
          rotate_left
          · intro w'
            go_simp
            with_reducible rfl
          rotate_left
          · simp only [Act.put, List.setIfInBounds_toArray, List.set_cons_zero, List.set_cons_succ, i64_w, i32_w]
            rfl
          refine done_ (done_of HT_.out (by kernel_rfl)) ?_
          try go_wp2
          go_ret2
          exact ⟨_, by first | rfl | (simp [errW_none, errW_some] <;> rfl) | (simp [*, errW_none, errW_some] <;> rfl), by (with_reducible repeat (first | apply Kd.R_alloc | apply Kd.R_drewN | apply Kd.R_drew)); exact HO231.out, by repeat (first | (with_reducible first | exact HB.out | apply below_alloc | apply pw_below_drewN | apply below_drew1 | refine below_set ?_ GE225.out) | exact HB.out)⟩
        · rw [if_neg c8] at H
          exact absurd H (by simp)
      · rw [if_neg c7] at H
        exact absurd H (by simp)
    · replace c6 := Bool.eq_false_iff.mpr c6
      subst c6
      have H1 : (some (([] : List Int), false)) = some (r1, r2) := by rw [if_neg (show ¬ (false = true) by decide)] at H; exact H
      clear H
      have H := H1
      clear H1
      simp only [Option.some.injEq, Prod.mk.injEq] at H
      obtain ⟨rfl, rfl⟩ := H
      go_enter Try.func50, Try.ntmps50
      go_wp2_with (first | ((with_reducible refine gate_dst (N := 2) rfl ?_); (try (refine gate_guard (by rfl) ?_; dsimp only)); refine box_event ?hg (N := 2) ?hd (cs := #[.slice A0_0 l0_0.length c0_0, .slice A0_1 l0_1.length c0_1]) (t := 34) ?hr ?_; (case hd => rfl); (case hg => rfl); (case hr => first | (go_simp; done) | (go_simp; rfl)); intro gb225 hg w16 hbox hb; have n0_ := Aside0.mk (below_step (by repeat (first | (with_reducible first | exact HB.out | apply below_alloc | apply pw_below_drewN | apply below_drew1) | exact HB.out)) hb); have n1_ := Aside0.mk (hbox); have n2_ := Aside0.mk ((by rw [hg]; exact (below_size (by repeat (first | (with_reducible first | exact HB.out | apply below_alloc | apply pw_below_drewN | apply below_drew1) | exact HB.out))) : w.heap.size ≤ gb225)); have n3_ := Aside0.mk ((by rw [hg]; exact (below_size (by repeat (first | (with_reducible first | exact HB.out | apply below_alloc | apply pw_below_drewN | apply below_drew1) | exact HB.out))) : w.heap.size ≤ gb225)); clear HB; have HB := n0_; have BK225 := n1_; have GW225 := n2_; have GE225 := n3_; clear n0_ n1_ n2_ n3_; clear hb hbox hg; have hcz17_0 : w16.cell? ⟨gb225, 0, none⟩ = some (.slice A0_0 l0_0.length c0_0) := (blk_cell BK225.out 0).trans rfl; have hcz17_1 : w16.cell? ⟨gb225, 1, none⟩ = some (.slice A0_1 l0_1.length c0_1) := (blk_cell BK225.out 1).trans rfl; have hfz17_0 := blk_frozen BK225.out 0; have hfz17_1 := blk_frozen BK225.out 1) | ((with_reducible refine gate_callee (f := 36) rfl ?_); refine goesL_ (some 7) rfl rfl Try.func36 (by kernel_rfl) rfl #[.agg #[.slice A0_0 l0_0.length c0_0, .slice A0_1 l0_1.length c0_1]] rfl (by (try simp only [List.map_toArray, List.map_cons, List.map_nil]); first | done | rfl | (simp only [List.length_drop, List.length_take]; rfl)) ?_; (with_reducible refine (impl_GoodGraph.calls k _ _ l0_0 _ _ l0_1 true _ ?side1 ?side2 ?side3 ?side4 A3.out).mono ?_); (case side1 => repeat (first | exact (Kd.C_below HR0_0.out HB.out) | (with_reducible refine Kd.C_alloc ?_ _) | (with_reducible refine Kd.C_drewN ?_ _) | (with_reducible refine Kd.C_drew ?_))); (case side2 => exact HC0_0.out); (case side3 => repeat (first | exact (Kd.C_below HR0_1.out HB.out) | (with_reducible refine Kd.C_alloc ?_ _) | (with_reducible refine Kd.C_drewN ?_ _) | (with_reducible refine Kd.C_drew ?_))); (case side4 => exact HC0_1.out); rintro e w18 ⟨rfl, hb⟩; refine ⟨_, rfl, ?_⟩; have n0_ := Aside0.mk (blk_below (g := gb225) (o := .cells #[.slice A0_0 l0_0.length c0_0, .slice A0_1 l0_1.length c0_1] 34 (0, 0)) (by (with_reducible repeat (first | refine blk_drewN ?_ _ | refine blk_drew ?_ | refine blk_alloc ?_ _)); exact BK225.out) hb); have n1_ := Aside0.mk (below_step (by repeat (first | (with_reducible first | exact HB.out | apply below_alloc | apply pw_below_drewN | apply below_drew1 | refine below_set ?_ GE225.out) | exact HB.out)) hb); clear BK225; clear HB; have BK225 := n0_; have HB := n1_; clear n0_ n1_; (try clear hb); (try clear hb2); (try clear hk); (try clear hi); have hcz19_0 : w18.cell? ⟨gb225, 0, none⟩ = some (.slice A0_0 l0_0.length c0_0) := (blk_cell BK225.out 0).trans rfl; have hcz19_1 : w18.cell? ⟨gb225, 1, none⟩ = some (.slice A0_1 l0_1.length c0_1) := (blk_cell BK225.out 1).trans rfl; have hfz19_0 := blk_frozen BK225.out 0; have hfz19_1 := blk_frozen BK225.out 1) | (go_at_call 99; (with_reducible refine (impl_within.calls a1 0 (wrap64 ((l0_0.length : Int) - 1)) false _ A5.out).mono ?_); rintro e w' ⟨rfl, ⟨nd, rfl⟩⟩))
      go_ret2
      exact ⟨_, by first | rfl | (simp [errW_none, errW_some] <;> rfl) | (simp [*, errW_none, errW_some] <;> rfl), by first | exact Kd.R_nil _ _ _ _ _ | exact Kd.N_nil _ _ _ _ _ | exact Kd.V_nil _ _ _ _ _ | exact Kd.Q_nil _ _ _ _ _ | exact Kd.S_nil _ _ _ _ _, by repeat (first | (with_reducible first | exact HB.out | apply below_alloc | apply pw_below_drewN | apply below_drew1 | refine below_set ?_ GE225.out) | exact HB.out)⟩
  · replace c4 := Bool.eq_false_iff.mpr c4
    subst c4
    have H1 : (some (([] : List Int), false)) = some (r1, r2) := by rw [if_neg (show ¬ (false = true) by decide)] at H; exact H
    clear H
    have H := H1
    clear H1
    simp only [Option.some.injEq, Prod.mk.injEq] at H
    obtain ⟨rfl, rfl⟩ := H
    go_enter Try.func50, Try.ntmps50
    go_wp2_with (first | ((with_reducible refine gate_dst (N := 2) rfl ?_); (try (refine gate_guard (by rfl) ?_; dsimp only)); refine box_event ?hg (N := 2) ?hd (cs := #[.slice A0_0 l0_0.length c0_0, .slice A0_1 l0_1.length c0_1]) (t := 34) ?hr ?_; (case hd => rfl); (case hg => rfl); (case hr => first | (go_simp; done) | (go_simp; rfl)); intro gb225 hg w20 hbox hb; have n0_ := Aside0.mk (below_step (by repeat (first | (with_reducible first | exact HB.out | apply below_alloc | apply pw_below_drewN | apply below_drew1) | exact HB.out)) hb); have n1_ := Aside0.mk (hbox); have n2_ := Aside0.mk ((by rw [hg]; exact (below_size (by repeat (first | (with_reducible first | exact HB.out | apply below_alloc | apply pw_below_drewN | apply below_drew1) | exact HB.out))) : w.heap.size ≤ gb225)); have n3_ := Aside0.mk ((by rw [hg]; exact (below_size (by repeat (first | (with_reducible first | exact HB.out | apply below_alloc | apply pw_below_drewN | apply below_drew1) | exact HB.out))) : w.heap.size ≤ gb225)); clear HB; have HB := n0_; have BK225 := n1_; have GW225 := n2_; have GE225 := n3_; clear n0_ n1_ n2_ n3_; clear hb hbox hg; have hcz21_0 : w20.cell? ⟨gb225, 0, none⟩ = some (.slice A0_0 l0_0.length c0_0) := (blk_cell BK225.out 0).trans rfl; have hcz21_1 : w20.cell? ⟨gb225, 1, none⟩ = some (.slice A0_1 l0_1.length c0_1) := (blk_cell BK225.out 1).trans rfl; have hfz21_0 := blk_frozen BK225.out 0; have hfz21_1 := blk_frozen BK225.out 1) | ((with_reducible refine gate_callee (f := 36) rfl ?_); refine goesL_ (some 7) rfl rfl Try.func36 (by kernel_rfl) rfl #[.agg #[.slice A0_0 l0_0.length c0_0, .slice A0_1 l0_1.length c0_1]] rfl (by (try simp only [List.map_toArray, List.map_cons, List.map_nil]); first | done | rfl | (simp only [List.length_drop, List.length_take]; rfl)) ?_; (with_reducible refine (impl_GoodGraph.calls k _ _ l0_0 _ _ l0_1 false _ ?side1 ?side2 ?side3 ?side4 A3.out).mono ?_); (case side1 => repeat (first | exact (Kd.C_below HR0_0.out HB.out) | (with_reducible refine Kd.C_alloc ?_ _) | (with_reducible refine Kd.C_drewN ?_ _) | (with_reducible refine Kd.C_drew ?_))); (case side2 => exact HC0_0.out); (case side3 => repeat (first | exact (Kd.C_below HR0_1.out HB.out) | (with_reducible refine Kd.C_alloc ?_ _) | (with_reducible refine Kd.C_drewN ?_ _) | (with_reducible refine Kd.C_drew ?_))); (case side4 => exact HC0_1.out); rintro e w22 ⟨rfl, hb⟩; refine ⟨_, rfl, ?_⟩; have n0_ := Aside0.mk (blk_below (g := gb225) (o := .cells #[.slice A0_0 l0_0.length c0_0, .slice A0_1 l0_1.length c0_1] 34 (0, 0)) (by (with_reducible repeat (first | refine blk_drewN ?_ _ | refine blk_drew ?_ | refine blk_alloc ?_ _)); exact BK225.out) hb); have n1_ := Aside0.mk (below_step (by repeat (first | (with_reducible first | exact HB.out | apply below_alloc | apply pw_below_drewN | apply below_drew1 | refine below_set ?_ GE225.out) | exact HB.out)) hb); clear BK225; clear HB; have BK225 := n0_; have HB := n1_; clear n0_ n1_; (try clear hb); (try clear hb2); (try clear hk); (try clear hi)))
    go_ret2
    exact ⟨_, by first | rfl | (simp [errW_none, errW_some] <;> rfl) | (simp [*, errW_none, errW_some] <;> rfl), by first | exact Kd.R_nil _ _ _ _ _ | exact Kd.N_nil _ _ _ _ _ | exact Kd.V_nil _ _ _ _ _ | exact Kd.Q_nil _ _ _ _ _ | exact Kd.S_nil _ _ _ _ _, by repeat (first | (with_reducible first | exact HB.out | apply below_alloc | apply pw_below_drewN | apply below_drew1 | refine below_set ?_ GE225.out) | exact HB.out)⟩

/-! ### laws.FnExactNodesIn: function 8, by hand -/
/-- What the law holds while it goes on: the reference's row and the program's, apart from the argument's copy (blocks a to b); the argument's own box. -/
structure HoldNodesIn (w W : World) (gp : Nat) (cs : Array Value) (a b : Nat) (v6 v9 : Value) (p q : List Int) : Prop where
  below : Below w.heap.size w W
  bp : W.heap[gp]? = some (.cells cs 25 (0, 0))
  gp : gp < a
  r6 : Kd.R (Kd.int .i64) 3 W w.heap.size (fun k => k < a) v6 p
  r9 : Kd.R (Kd.int .i64) 3 W w.heap.size (fun k => b ≤ k) v9 q
  lo : w.heap.size ≤ a
  ab : a ≤ b
  hi : b ≤ W.heap.size
theorem HoldNodesIn.step {w W W' : World} {gp : Nat} {cs : Array Value} {a b : Nat} {v6 v9 : Value} {p q : List Int} (h : HoldNodesIn w W gp cs a b v6 v9 p q) (hb : Below W.heap.size W W') : HoldNodesIn w W' gp cs a b v6 v9 p q :=
  ⟨below_step h.below hb, blk_below h.bp hb, h.gp, Kd.R_below h.r6 hb, Kd.R_below h.r9 hb, h.lo, h.ab, Nat.le_trans h.hi hb.size⟩
theorem HoldNodesIn.kept {w W W' : World} {gp : Nat} {cs : Array Value} {a b : Nat} {v6 v9 : Value} {p q : List Int} (h : HoldNodesIn w W gp cs a b v6 v9 p q) (hk : Kept W W' (fun k => a ≤ k ∧ k < b)) (hb : Below w.heap.size w W') : HoldNodesIn w W' gp cs a b v6 v9 p q :=
  ⟨hb, blk_kept h.bp hk (fun h2 => by have := h2.1; have := h.gp; omega), h.gp, Kd.R_kept h.r6 hk (fun k hk h2 => by have := h2.1; omega), Kd.R_kept h.r9 hk (fun k hk h2 => by have := h2.2; omega), h.lo, h.ab, Nat.le_trans h.hi hk.1⟩
theorem HoldNodesIn.mark {w W W' : World} {gp : Nat} {cs : Array Value} {a b : Nat} {v6 v9 : Value} {p q q' : List Int} (h : HoldNodesIn w W gp cs a b v6 v9 p q) (hk : Kept W W' (fun k => b ≤ k)) (hr : Kd.R (Kd.int .i64) 3 W' w.heap.size (fun k => b ≤ k ∨ W.heap.size ≤ k) v9 q') (hb : Below w.heap.size w W') : HoldNodesIn w W' gp cs a b v6 v9 p q' :=
  ⟨hb, blk_kept h.bp hk (fun h2 => by have := h.gp; have := h.ab; omega), h.gp, Kd.R_kept h.r6 hk (fun k hk h2 => by have := h.ab; omega), Kd.R_mono hr (fun k hk => hk.elim id (fun h2 => Nat.le_trans h.hi h2)), h.lo, h.ab, Nat.le_trans h.hi hk.1⟩
theorem HoldNodesIn.y0 {w W : World} {gp : Nat} {cs : Array Value} {a b : Nat} {v6 v9 : Value} {p q : List Int} (h : HoldNodesIn w W gp cs a b v6 v9 p q) (i : Nat) : W.cell? ⟨gp, i, none⟩ = cs[i]? := blk_cell h.bp i
/-- The argument's copy, before it is marked. -/
structure HoldNodesInX (w W : World) (a b : Nat) (v0 v1 : Value) (L1 : List S114) (L2 : List Int) : Prop where
  s : Kd.S k114 114 W w.heap.size (fun k => (a ≤ k ∧ k < b) ∧ some k ≠ v1.ownBlock) v0 L1
  r : Kd.R (Kd.int .i64) 3 W w.heap.size (fun k => a ≤ k ∧ k < b) v1 L2
theorem HoldNodesInX.step {w W W' : World} {a b : Nat} {v0 v1 : Value} {L1 : List S114} {L2 : List Int} (h : HoldNodesInX w W a b v0 v1 L1 L2) (hb : Below W.heap.size W W') : HoldNodesInX w W' a b v0 v1 L1 L2 := ⟨Kd.S_below h.s hb, Kd.R_below h.r hb⟩
def laws_FnExactNodesIn.f (k : Nat) (l0_0 : List S130) (l0_1 : List Int) (a1 : Int) : Option Bool :=
  (laws_szEGraph.f k l0_0 l0_1 1048576).bind fun t => if t < 0 then some true else
    (laws_toEGraph.f k l0_0 l0_1).bind fun L => (spec_NodesIn.f k L.1 L.2 a1).bind fun p => (impl_NodesIn.f k L.1 L.2 a1).bind fun q =>
      (laws_eqIntS.f k q.1 p.1).bind fun e1 => (laws_eqEGraph.f k L.1 L.2 L.1 L.2).bind fun e2 => (laws_markIntS.f k q.1 1).bind fun m => (laws_heldIntS.f k m.2 1).bind fun h =>
        if (e1 = true ∧ e2 = true ∧ q.2 = p.2) ∧ L.1.length ≤ 100000000 ∧ enW L.1 + L.2.length ≤ 100000000 ∧ 0 ≤ h ∧ h = m.1 then some true else none
set_option maxHeartbeats 8000000 in
set_option maxRecDepth 100000 in
theorem laws_FnExactNodesIn.calls (k : Nat) (A0_0 : Option Addr) (c0_0 : Nat) (l0_0 : List S130) (A0_1 : Option Addr) (c0_1 : Nat) (l0_1 : List Int) (a1 : Int) (r : Bool) (w : World) (hr0_0 : Kd.C k130 w A0_0 l0_0.length l0_0) (hc0_0 : l0_0.length ≤ c0_0) (hr0_1 : Kd.C (Kd.int .i64) w A0_1 l0_1.length l0_1) (hc0_1 : l0_1.length ≤ c0_1) (h : laws_FnExactNodesIn.f k l0_0 l0_1 a1 = some r) :
    Calls Try.prog 8 #[.agg #[.slice A0_0 l0_0.length c0_0, .slice A0_1 l0_1.length c0_1], .int .i64 a1] w fun e w' => e = .returned (.bool r) ∧ Below w.heap.size w w' := by
  have hul := Try.underlying25
  have hui := Try.underlying34
  unfold laws_FnExactNodesIn.f at h
  obtain ⟨t, ht, h⟩ := Option.bind_eq_some_iff.1 h
  have HSZ : Aside0 (∀ W, Below w.heap.size w W → Calls Try.prog 17 #[.agg #[.slice A0_0 l0_0.length c0_0, .slice A0_1 l0_1.length c0_1], .int .i64 1048576] W fun e w' => e = .returned (.int .i64 t) ∧ Aside0 (Below w.heap.size w w' ∧ Below W.heap.size W w')) :=
    ⟨fun W hW => (laws_szEGraph.calls k A0_0 c0_0 l0_0 A0_1 c0_1 l0_1 1048576 t W (Kd.C_below hr0_0 hW) hc0_0 (Kd.C_below hr0_1 hW) hc0_1 ht).mono fun e w' ⟨h, k⟩ => ⟨h, ⟨below_step hW k, k⟩⟩⟩
  have HB0 := Aside0.mk (Below.refl w.heap.size w)
  by_cases htn : t < 0
  · rw [if_pos htn] at h
    obtain rfl := Option.some.inj h
    have n1 : (t < 0) = True := eq_true htn
    clear h ht hr0_0 hc0_0 hr0_1 hc0_1 htn
    generalize l0_0.length = nn0 at *
    generalize l0_1.length = nn1 at *
    go_enter Try.func8, Try.ntmps8
    go_wp2_with (first | ((with_reducible refine gate_dst (N := 2) rfl ?_); refine box_event ?hg (N := 2) ?hd (cs := #[.slice A0_0 nn0 c0_0, .slice A0_1 nn1 c0_1]) (t := 25) ?hr ?_; (case hd => rfl); (case hg => rfl); (case hr => first | (go_simp; done) | (go_simp; rfl)); intro gp hgp w1 hbox hb; have GP := Aside0.mk hgp; have BP1 := Aside0.mk hbox; have B1 := Aside0.mk hb; have y0 : w1.cell? ⟨gp, 0, none⟩ = some (.slice A0_0 nn0 c0_0) := (blk_cell hbox 0).trans rfl; have y1 : w1.cell? ⟨gp, 1, none⟩ = some (.slice A0_1 nn1 c0_1) := (blk_cell hbox 1).trans rfl; clear hbox hb hgp) | (go_at_call 17; (with_reducible refine (HSZ.out _ B1.out).mono ?_); rintro e w2 ⟨rfl, Z2⟩))
    go_ret
    exact ⟨rfl, Z2.out.1⟩
  · rw [if_neg htn] at h
    obtain ⟨L, hto, h⟩ := Option.bind_eq_some_iff.1 h
    obtain ⟨p, hsp, h⟩ := Option.bind_eq_some_iff.1 h
    obtain ⟨q, him, h⟩ := Option.bind_eq_some_iff.1 h
    obtain ⟨e1, he1, h⟩ := Option.bind_eq_some_iff.1 h
    obtain ⟨e2, he2, h⟩ := Option.bind_eq_some_iff.1 h
    obtain ⟨m, hma, h⟩ := Option.bind_eq_some_iff.1 h
    obtain ⟨hh, hhe, h⟩ := Option.bind_eq_some_iff.1 h
    by_cases hc : (e1 = true ∧ e2 = true ∧ q.2 = p.2) ∧ L.1.length ≤ 100000000 ∧ enW L.1 + L.2.length ≤ 100000000 ∧ 0 ≤ hh ∧ hh = m.1
    · rw [if_pos hc] at h
      obtain rfl := Option.some.inj h
      obtain ⟨⟨rfl, rfl, hq0⟩, hL1, hL2, hh0, hhm⟩ := hc
      obtain ⟨L1, L2⟩ := L
      obtain ⟨p1, pb0⟩ := p
      obtain ⟨q1, qb0⟩ := q
      obtain ⟨m1, m2⟩ := m
      simp only at hq0 hhm he1 he2 hma hhe hsp him hto hL1 hL2
      subst hq0 hhm
      obtain ⟨M, hM⟩ : ∃ M : Nat, M = 1 + enW L1 + L2.length := ⟨_, rfl⟩
      have HTO : Aside0 (∀ W, Below w.heap.size w W → Calls Try.prog 20 #[.agg #[.slice A0_0 l0_0.length c0_0, .slice A0_1 l0_1.length c0_1]] W fun e w' => ∃ A c A' c', e = .returned (.agg #[.slice A L1.length c, .slice A' L2.length c']) ∧ Aside0 ((Kd.S k114 114 w' W.heap.size (fun k => some k ≠ (Value.slice A' L2.length c').ownBlock) (.slice A L1.length c) L1 ∧ Kd.R (Kd.int .i64) 3 w' W.heap.size (fun _ => True) (.slice A' L2.length c') L2) ∧ Below w.heap.size w w' ∧ Below W.heap.size W w')) := by
        refine ⟨fun W hW => (laws_toEGraph.calls k A0_0 c0_0 l0_0 A0_1 c0_1 l0_1 L1 L2 W (Kd.C_below hr0_0 hW) hc0_0 (Kd.C_below hr0_1 hW) hc0_1 hto).mono ?_⟩
        rintro e w' ⟨v, v', rfl, hS, hR, hb⟩
        obtain ⟨A, c, rfl, -, -⟩ := Kd.S_reads hS
        obtain ⟨A', c', rfl, -, -⟩ := Kd.R_reads hR
        exact ⟨A, c, A', c', rfl, ⟨⟨hS, hR⟩, below_step hW hb, hb⟩⟩
      have HSP : Aside0 (∀ W okS okR base A c A' c', Kd.S k114 114 W base okS (.slice A L1.length c) L1 → Kd.R (Kd.int .i64) 3 W base okR (.slice A' L2.length c') L2 → Below w.heap.size w W → Calls Try.prog 49 #[.agg #[.slice A L1.length c, .slice A' L2.length c'], .int .i64 a1] W fun e w' => ∃ v6, e = .returned (.tuple #[v6, .bool qb0]) ∧ Aside0 (Kd.R (Kd.int .i64) 3 w' W.heap.size (fun _ => True) v6 p1 ∧ Below w.heap.size w w' ∧ Below W.heap.size W w')) := by
        refine ⟨fun W okS okR base A c A' c' hS hR hW => ?_⟩
        obtain ⟨_, h1, C1⟩ := Kd.S_reads' hS
        obtain ⟨_, h2, C2⟩ := Kd.R_reads' hR
        exact (spec_NodesIn.calls k A c L1 A' c' L2 a1 p1 qb0 W C1 h1 C2 h2 hsp).mono fun e w' ⟨v, h1, h2, h3⟩ => ⟨v, h1, ⟨h2, below_step hW h3, h3⟩⟩
      have HIM : Aside0 (∀ W okS okR base A c A' c', Kd.S k114 114 W base okS (.slice A L1.length c) L1 → Kd.R (Kd.int .i64) 3 W base okR (.slice A' L2.length c') L2 → Below w.heap.size w W → Calls Try.prog 50 #[.agg #[.slice A L1.length c, .slice A' L2.length c'], .int .i64 a1] W fun e w' => ∃ v6, e = .returned (.tuple #[v6, .bool qb0]) ∧ Aside0 (Kd.R (Kd.int .i64) 3 w' W.heap.size (fun _ => True) v6 q1 ∧ Below w.heap.size w w' ∧ Below W.heap.size W w')) := by
        refine ⟨fun W okS okR base A c A' c' hS hR hW => ?_⟩
        obtain ⟨_, h1, C1⟩ := Kd.S_reads' hS
        obtain ⟨_, h2, C2⟩ := Kd.R_reads' hR
        exact (impl_NodesIn.calls k A c L1 A' c' L2 a1 q1 qb0 W C1 h1 C2 h2 him).mono fun e w' ⟨v, h1, h2, h3⟩ => ⟨v, h1, ⟨h2, below_step hW h3, h3⟩⟩
      have HEQ : Aside0 (∀ W gp cs a b v6 v9, HoldNodesIn w W gp cs a b v6 v9 p1 q1 → Calls Try.prog 46 #[v9, v6] W fun e w' => e = .returned (.bool true) ∧ Aside0 (HoldNodesIn w w' gp cs a b v6 v9 p1 q1 ∧ Below W.heap.size W w')) := by
        refine ⟨fun W gp cs a b v6 v9 hH => ?_⟩
        obtain ⟨A6, c6, rfl, h6, C6⟩ := Kd.R_reads hH.r6
        obtain ⟨A9, c9, rfl, h9, C9⟩ := Kd.R_reads hH.r9
        refine (laws_eqIntS.calls k A9 c9 q1 A6 c6 p1 true W C9 h9 C6 h6 he1).mono ?_
        rintro e w' ⟨rfl, hd⟩
        have hd' : Below W.heap.size W w' := by first | exact hd | exact hd.below
        exact ⟨rfl, ⟨hH.step hd', hd'⟩⟩
      have HEQ2 : Aside0 (∀ W gp cs a b v6 v9 v14 b0, HoldNodesIn w W gp cs a b v6 v9 p1 m2 → Kd.R (Kd.int .i64) 3 W b0 (fun _ => True) v14 q1 → Calls Try.prog 46 #[v14, v6] W fun e w' => e = .returned (.bool true) ∧ Aside0 (HoldNodesIn w w' gp cs a b v6 v9 p1 m2)) := by
        refine ⟨fun W gp cs a b v6 v9 v14 b0 hH hR => ?_⟩
        obtain ⟨A6, c6, rfl, h6, C6⟩ := Kd.R_reads hH.r6
        obtain ⟨A9, c9, rfl, h9, C9⟩ := Kd.R_reads hR
        refine (laws_eqIntS.calls k A9 c9 q1 A6 c6 p1 true W C9 h9 C6 h6 he1).mono ?_
        rintro e w' ⟨rfl, hd⟩
        have hd' : Below W.heap.size W w' := by first | exact hd | exact hd.below
        exact ⟨rfl, ⟨hH.step hd'⟩⟩
      have HES : Aside0 (∀ W okS okR base okS' okR' base' A c A1 c1 A' c' A1' c1', Kd.S k114 114 W base okS (.slice A L1.length c) L1 → Kd.R (Kd.int .i64) 3 W base okR (.slice A1 L2.length c1) L2 → Kd.S k114 114 W base' okS' (.slice A' L1.length c') L1 → Kd.R (Kd.int .i64) 3 W base' okR' (.slice A1' L2.length c1') L2 → Calls Try.prog 24 #[.agg #[.slice A L1.length c, .slice A1 L2.length c1], .agg #[.slice A' L1.length c', .slice A1' L2.length c1']] W fun e w' => e = .returned (.bool true) ∧ Aside0 (Below W.heap.size W w')) := by
        refine ⟨fun W okS okR base okS' okR' base' A c A1 c1 A' c' A1' c1' hS hR hS' hR' => ?_⟩
        obtain ⟨_, h1, C1⟩ := Kd.S_reads' hS
        obtain ⟨_, h2, C2⟩ := Kd.R_reads' hR
        obtain ⟨_, h3, C3⟩ := Kd.S_reads' hS'
        obtain ⟨_, h4, C4⟩ := Kd.R_reads' hR'
        exact (laws_eqEGraph.calls k A c L1 A1 c1 L2 A' c' L1 A1' c1' L2 true W C1 h1 C2 h2 C3 h3 C4 h4 he2).mono fun e w' ⟨h, k⟩ => ⟨h, ⟨k⟩⟩
      have HMS : Aside0 (∀ W gp cs a b v6 v9 A c A' c', HoldNodesIn w W gp cs a b v6 v9 p1 q1 → HoldNodesInX w W a b (.slice A L1.length c) (.slice A' L2.length c') L1 L2 → Calls Try.prog 26 #[.agg #[.slice A L1.length c, .slice A' L2.length c'], .int .i64 1] W fun e w' => e = .returned (.int .i64 (M : Int)) ∧ Aside0 (HoldNodesIn w w' gp cs a b v6 v9 p1 q1)) := by
        refine ⟨fun W gp cs a b v6 v9 A c A' c' hH hX => ?_⟩
        have := markEGraph_told (fun k => a ≤ k ∧ k < b) A A' c c' L1 L2 1 w W hH.below hX.s hX.r hL1 (by omega)
        rw [← hM] at this
        refine this.mono ?_
        rintro e w' ⟨rfl, -, h1, h2⟩
        exact ⟨rfl, ⟨hH.kept h2 h1⟩⟩
      have HMA : Aside0 (∀ W gp cs a b v6 v9, HoldNodesIn w W gp cs a b v6 v9 p1 q1 → Calls Try.prog 47 #[v9, .int .i64 1] W fun e w' => e = .returned (.int .i64 hh) ∧ Aside0 (HoldNodesIn w w' gp cs a b v6 v9 p1 m2)) := by
        refine ⟨fun W gp cs a b v6 v9 hH => ?_⟩
        refine (laws_markIntS.calls k _ v9 q1 1 hh m2 w W hH.below hH.r9 hma).mono ?_
        rintro e w' ⟨rfl, h1, h2, h3⟩
        exact ⟨rfl, ⟨hH.mark h3 h1 h2⟩⟩
      have HHE : Aside0 (∀ W gp cs a b v6 v9, HoldNodesIn w W gp cs a b v6 v9 p1 m2 → Calls Try.prog 48 #[v9, .int .i64 1] W fun e w' => e = .returned (.int .i64 hh) ∧ Aside0 (HoldNodesIn w w' gp cs a b v6 v9 p1 m2)) := by
        refine ⟨fun W gp cs a b v6 v9 hH => ?_⟩
        obtain ⟨A9, c9, rfl, h9, C9⟩ := Kd.R_reads hH.r9
        refine (laws_heldIntS.calls k A9 c9 m2 1 hh W C9 h9 hhe).mono ?_
        rintro e w' ⟨rfl, hd⟩
        have hd' : Below W.heap.size W w' := by first | exact hd | exact hd.below
        exact ⟨rfl, ⟨hH.step hd'⟩⟩
      have HST : Aside0 (∀ (w1 w3 w4 w5 w6 W6 w7 : World) (gp : Nat) (cs : Array Value) (v5a v5b v4 v7 : Value), w1.heap[gp]? = some (.cells cs 25 (0, 0)) → Below w1.heap.size w1 w3 → (Kd.R (Kd.int .i64) 3 w4 w3.heap.size (fun _ => True) v4 p1 ∧ Below w.heap.size w w4 ∧ Below w3.heap.size w3 w4) → ((Kd.S k114 114 w5 w4.heap.size (fun k => some k ≠ v5b.ownBlock) v5a L1 ∧ Kd.R (Kd.int .i64) 3 w5 w4.heap.size (fun _ => True) v5b L2) ∧ Below w.heap.size w w5 ∧ Below w4.heap.size w4 w5) → Below w5.heap.size w5 W6 → (Kd.R (Kd.int .i64) 3 w7 W6.heap.size (fun _ => True) v7 q1 ∧ Below w.heap.size w w7 ∧ Below W6.heap.size W6 w7) → Below w.heap.size w w3 → HoldNodesIn w w7 gp cs w4.heap.size w5.heap.size v4 v7 p1 q1 ∧ HoldNodesInX w w7 w4.heap.size w5.heap.size v5a v5b L1 L2) := by
        refine ⟨fun w1 w3 w4 w5 w6 W6 w7 gp cs v5a v5b v4 v7 hbp h13 h4 h5 h56 h7 h3 => ?_⟩
        have b17 : Below w1.heap.size w1 w7 := below_step (below_step (below_step (below_step h13 h4.2.2) h5.2.2) h56) h7.2.2
        have b47 : Below w4.heap.size w4 w7 := below_step (below_step h5.2.2 h56) h7.2.2
        have b57 : Below w5.heap.size w5 w7 := below_step h56 h7.2.2
        refine ⟨⟨h7.2.1, blk_below hbp b17, Nat.lt_of_lt_of_le (blk_lt hbp) (Nat.le_trans h13.size h4.2.2.size), ?_, ?_, h4.2.1.size, h5.2.2.size, b57.size⟩, ⟨?_, ?_⟩⟩
        · exact Kd.R_below (Kd.R_lower (Kd.R_mono (ok' := fun k => k < w4.heap.size) (Kd.R_bound h4.1) (fun k hk => hk.2.2.1)) h3.size) b47
        · exact Kd.R_lower (Kd.R_mono (ok' := fun k => w5.heap.size ≤ k) (Kd.R_bound h7.1) (fun k hk => Nat.le_trans h56.size hk.2.1)) (Nat.le_trans h5.2.1.size h56.size)
        · exact Kd.S_below (Kd.S_lower (Kd.S_mono (Kd.S_bound h5.1.1) (fun k hk => ⟨⟨hk.2.1, hk.2.2.1⟩, hk.1⟩)) h4.2.1.size) b57
        · exact Kd.R_below (Kd.R_lower (Kd.R_mono (Kd.R_bound h5.1.2) (fun k hk => ⟨hk.2.1, hk.2.2.1⟩)) h4.2.1.size) b57
      have n1 : (t < 0) = False := eq_false htn
      have n2 : ((M : Int) < 0) = False := eq_false (by omega)
      have n3 : (hh < 0) = False := eq_false (by omega)
      clear hr0_0 hc0_0 hr0_1 hc0_1 hto hsp him he1 he2 hma hhe hM hL1 hL2 hh0 h ht htn
      generalize L1.length = nL1 at *
      generalize L2.length = nL2 at *
      generalize l0_0.length = nn0 at *
      generalize l0_1.length = nn1 at *
      have tok1 : True := trivial
      go_enter Try.func8, Try.ntmps8
      go_wp2_with (first
        | ((with_reducible refine gate_dst (N := 2) rfl ?_); refine box_event ?hg (N := 2) ?hd (cs := #[.slice A0_0 nn0 c0_0, .slice A0_1 nn1 c0_1]) (t := 25) ?hr ?_; (case hd => rfl); (case hg => rfl); (case hr => first | (go_simp; done) | (go_simp; rfl)); intro gp hgp w1 hbox hb; have GP := Aside0.mk hgp; have BP1 := Aside0.mk hbox; have B1 := Aside0.mk hb; have y0 : w1.cell? ⟨gp, 0, none⟩ = some (.slice A0_0 nn0 c0_0) := (blk_cell hbox 0).trans rfl; have y1 : w1.cell? ⟨gp, 1, none⟩ = some (.slice A0_1 nn1 c0_1) := (blk_cell hbox 1).trans rfl; clear hbox hb hgp)
        | (go_at_call 17; (with_reducible refine (HSZ.out _ B1.out).mono ?_); rintro e w2 ⟨rfl, Z2⟩; replace y0 := pw_cell_below Z2.out.2 y0; replace y1 := pw_cell_below Z2.out.2 y1)
        | (go_at_call 20; have _t := tok1; (with_reducible refine (HTO.out _ Z2.out.1).mono ?_); rintro e w3 ⟨A3, c3, A3', c3', rfl, Z3⟩; replace y0 := pw_cell_below Z3.out.2.2 y0; replace y1 := pw_cell_below Z3.out.2.2 y1; clear _t tok1; have tok2 : True := trivial)
        | (go_at_call 49; (with_reducible refine (HSP.out _ _ _ _ _ _ _ _ Z3.out.1.1 Z3.out.1.2 Z3.out.2.1).mono ?_); rintro e w4 ⟨v4, rfl, Z4⟩; replace y0 := pw_cell_below Z4.out.2.2 y0; replace y1 := pw_cell_below Z4.out.2.2 y1)
        | (go_at_call 20; have _t := tok2; (with_reducible refine (HTO.out _ Z4.out.2.1).mono ?_); rintro e w5 ⟨A5, c5, A5', c5', rfl, Z5⟩; replace y0 := pw_cell_below Z5.out.2.2 y0; replace y1 := pw_cell_below Z5.out.2.2 y1; clear _t tok2; have tok3 : True := trivial)
        | ((with_reducible refine gate_dst (N := 8) rfl ?_); refine box_event ?hg (N := 8) ?hd (cs := #[.slice none 0 0, .slice none 0 0]) (t := 34) ?hr ?_; (case hd => rfl); (case hg => rfl); (case hr => first | (go_simp; done) | (go_simp; rfl)); intro gx hgx w6 hbox hb; have B6 := Aside0.mk hb; have GX := Aside0.mk (show w5.heap.size ≤ gx from Nat.le_of_eq hgx.symm); have x0 : w6.cell? ⟨gx, 0, none⟩ = some (.slice none 0 0) := (blk_cell hbox 0).trans rfl; have x1 : w6.cell? ⟨gx, 1, none⟩ = some (.slice none 0 0) := (blk_cell hbox 1).trans rfl; have f0 := blk_frozen hbox 0; have f1 := blk_frozen hbox 1; have ne1 : gp ≠ gx := (by have := blk_lt BP1.out; have h1 := Z2.out.2.size; have h2 := Z3.out.2.2.size; have h3 := Z4.out.2.2.size; have h4 := Z5.out.2.2.size; omega); have ne2 : gx ≠ gp := (fun h => ne1 h.symm); replace y0 := pw_cell_below hb y0; replace y1 := pw_cell_below hb y1; clear hbox hb hgx)
        | (go_at_call 50; have _t := tok3; have B6' := Aside0.mk (show Below w5.heap.size w5 ((w6.setCell ⟨gx, 0, none⟩ (.slice A5 nL1 c5)).setCell ⟨gx, 1, none⟩ (.slice A5' nL2 c5')) from below_set (below_set B6.out GX.out) GX.out); (with_reducible refine (HIM.out _ _ _ _ _ _ _ _ (Kd.S_below Z5.out.1.1 B6'.out) (Kd.R_below Z5.out.1.2 B6'.out) (below_step Z5.out.2.1 B6'.out)).mono ?_); rintro e w7 ⟨v7, rfl, Z7⟩; have H7 := Aside0.mk (HST.out _ _ _ _ w6 _ _ _ _ _ _ _ _ BP1.out (below_step Z2.out.2 Z3.out.2.2) Z4.out Z5.out B6'.out Z7.out Z3.out.2.1); replace x0 : w7.cell? ⟨gx, 0, none⟩ = some (.slice A5 nL1 c5) := pw_cell_below Z7.out.2.2 (by go_simp); replace x1 : w7.cell? ⟨gx, 1, none⟩ = some (.slice A5' nL2 c5') := pw_cell_below Z7.out.2.2 (by go_simp); replace y0 : w7.cell? ⟨gp, 0, none⟩ = some (.slice A0_0 nn0 c0_0) := pw_cell_below Z7.out.2.2 (by go_simp); replace y1 : w7.cell? ⟨gp, 1, none⟩ = some (.slice A0_1 nn1 c0_1) := pw_cell_below Z7.out.2.2 (by go_simp); clear f0 f1 _t tok3; have tok4 : True := trivial)
        | (go_at_call 46; have _t := tok4; (with_reducible refine (HEQ.out _ _ _ _ _ _ _ H7.out.1).mono ?_); rintro e w8 ⟨rfl, Z8⟩; replace y0 := pw_cell_below Z8.out.2 y0; replace y1 := pw_cell_below Z8.out.2 y1; replace x0 := pw_cell_below Z8.out.2 x0; replace x1 := pw_cell_below Z8.out.2 x1; clear _t tok4; have tok5 : True := trivial))
      first | (go_region_held3 (fun w' => w'.cell? ⟨gp, 0, none⟩ = some (.slice A0_0 nn0 c0_0) ∧ w'.cell? ⟨gp, 1, none⟩ = some (.slice A0_1 nn1 c0_1) ∧ w'.cell? ⟨gx, 0, none⟩ = some (.slice A5 nL1 c5) ∧ w'.cell? ⟨gx, 1, none⟩ = some (.slice A5' nL2 c5')) (first | exact ⟨y0, y1, x0, x1⟩ | (refine ⟨?_, ?_, ?_, ?_⟩ <;> go_keep) | go_keep) (first
        | (go_at_call 20; have _t := tok5; (with_reducible refine (HTO.out _ (Below.drew Z8.out.1.below)).mono ?_); rintro e w9 ⟨A9, c9, A9', c9', rfl, Z9⟩; have hd9 := (show Below w8.heap.size w8 w9 from below_step (Below.drew (Below.refl _ _)) Z9.out.2.2); replace y0 := pw_cell_below hd9 y0; replace y1 := pw_cell_below hd9 y1; replace x0 := pw_cell_below hd9 x0; replace x1 := pw_cell_below hd9 x1; have D9 := Aside0.mk hd9; clear hd9 _t tok5; have tok6 : True := trivial; (try dsimp only))
        | (go_at_call 24; have X9 := Aside0.mk ((H7.out.2.step Z8.out.2).step D9.out); (with_reducible refine (HES.out _ _ _ _ _ _ _ _ _ _ _ _ _ _ _ X9.out.s X9.out.r Z9.out.1.1 Z9.out.1.2).mono ?_); rintro e w10 ⟨rfl, Z10⟩; have H10 := Aside0.mk ((Z8.out.1.step D9.out).step Z10.out); have X10 := Aside0.mk (X9.out.step Z10.out); replace y0 := pw_cell_below Z10.out y0; replace y1 := pw_cell_below Z10.out y1; replace x0 := pw_cell_below Z10.out x0; replace x1 := pw_cell_below Z10.out x1; (try dsimp only)))) | fail
      have tok6 : True := trivial
      go_wp2_with (first
        | (go_at_call 26; (with_reducible refine (HMS.out _ _ _ _ _ _ _ _ _ _ _ H10.out X10.out).mono ?_); rintro e w11 ⟨rfl, H11⟩; clear y0 y1 x0 x1; have y0 := (H11.out.y0 0).trans rfl; have y1 := (H11.out.y0 1).trans rfl; clear tok6; have tok7 : True := trivial)
        | (go_at_call 46; have _t := tok7; (with_reducible refine (HEQ.out _ _ _ _ _ _ _ H11.out).mono ?_); rintro e w12 ⟨rfl, Z12⟩; replace y0 := pw_cell_below Z12.out.2 y0; replace y1 := pw_cell_below Z12.out.2 y1; clear _t tok7; have tok8 : True := trivial)
        | (go_at_call 47; (with_reducible refine (HMA.out _ _ _ _ _ _ _ Z12.out.1).mono ?_); rintro e w13 ⟨rfl, H13⟩; clear y0 y1; have y0 := (H13.out.y0 0).trans rfl; have y1 := (H13.out.y0 1).trans rfl)
        | (go_at_call 48; have _t := tok8; (with_reducible refine (HHE.out _ _ _ _ _ _ _ H13.out).mono ?_); rintro e w14 ⟨rfl, H14⟩; clear y0 y1; have y0 := (H14.out.y0 0).trans rfl; have y1 := (H14.out.y0 1).trans rfl; clear _t tok8; have tok9 : True := trivial)
        | (go_at_call 20; have _t := tok9; (with_reducible refine (HTO.out _ H14.out.below).mono ?_); rintro e w15 ⟨A15, c15, A15', c15', rfl, Z15⟩; clear _t tok9; have tok10 : True := trivial)
        | (go_at_call 50; have _t := tok10; (with_reducible refine (HIM.out _ _ _ _ _ _ _ _ Z15.out.1.1 Z15.out.1.2 Z15.out.2.1).mono ?_); rintro e w16 ⟨v16, rfl, Z16⟩; have H16 := Aside0.mk ((H14.out.step Z15.out.2.2).step Z16.out.2.2); clear _t tok10; have tok11 : True := trivial)
        | (go_at_call 46; have _t := tok11; (with_reducible refine (HEQ2.out _ _ _ _ _ _ _ _ _ H16.out Z16.out.1).mono ?_); rintro e w17 ⟨rfl, H17⟩; clear _t tok11; have tok12 : True := trivial)
        | (go_at_call 48; have _t := tok12; (with_reducible refine (HHE.out _ _ _ _ _ _ _ H17.out).mono ?_); rintro e w18 ⟨rfl, H18⟩; clear _t tok12))
      go_ret
      exact ⟨rfl, H18.out.below⟩
    · rw [if_neg hc] at h
      exact absurd h (by simp)

end Go.Proofs.Ytakblgcheakbnaa.PFnExactNodesIn
