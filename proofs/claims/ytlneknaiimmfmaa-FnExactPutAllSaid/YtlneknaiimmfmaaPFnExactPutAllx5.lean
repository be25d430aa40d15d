/- Functions of the program and of the reference as plain Lean functions, and what their calls come to; partly printed by a program, partly by hand; no condition beyond what each theorem says. -/
import Derived.Test.YtlneknaiimmfmaaPFnExactPutAllx0
import Derived.Test.YtlneknaiimmfmaaPFnExactPutAllx1
import Derived.Test.YtlneknaiimmfmaaPFnExactPutAllx2
import Derived.Test.YtlneknaiimmfmaaPFnExactPutAllx3
import Derived.Test.YtlneknaiimmfmaaPFnExactPutAllx4
namespace Go.Proofs.Ytlneknaiimmfmaa.PFnExactPutAll
open Go.RowKit Go.Proofs.YtlneknaiimmfmaaW.PrintWords Go.Proofs.YtlneknaiimmfmaaW.PrintLast Go.Proofs.YtlneknaiimmfmaaW.PrintMore
attribute [local go_sem] max2_int min2_int max_two min_two max_three min_three max_four min_four   -- for this text's walks alone
set_option linter.unusedVariables false
set_option linter.unusedSimpArgs false

/-! ### laws_eqNodeSS: function 62 -/
def laws_eqNodeSS.l0 : Nat → List (List (S87)) → List (List (S87)) → Int → Option (Bool)
  | 0, _, _, _ => none
  | k + 1, x0, x1, x5 => if x5 < (x0.length : Int) then (if 0 ≤ x5 then (if x5 < (x1.length : Int) then ((laws_eqNodeS.f k (rd_L4 x0 x5) (rd_L4 x1 x5)).bind fun t156 => (if t156 = true then (laws_eqNodeSS.l0 k x0 x1 (wrap64 (x5 + 1))) else (some false))) else (none)) else (none)) else (some true)
def laws_eqNodeSS.f (k : Nat) (l0 : List (List (S87))) (l1 : List (List (S87))) : Option (Bool) := if (l0.length : Int) = (l1.length : Int) then (laws_eqNodeSS.l0 k l0 l1 0) else (some false)
theorem laws_eqNodeSS.mono_l : ∀ k, (∀ y0 y1 y2, LeO (laws_eqNodeSS.l0 k y0 y1 y2) (laws_eqNodeSS.l0 (k + 1) y0 y1 y2))
  | 0 => fun _ _ _ r h => by simp [laws_eqNodeSS.l0] at h
  | k + 1 => by
    have ih0 := laws_eqNodeSS.mono_l k
    · intro y0 y1 y2
      unfold laws_eqNodeSS.l0
      repeat' first
      | (with_reducible exact ih0 _ _ _)
      | (with_reducible exact laws_eqNodeS.mono _ _ _)
      | (with_reducible exact LeO.refl _)
      | (with_reducible exact LeO.none _)
      | (with_reducible refine LeO.ite ?_ ?_)
      | (with_reducible refine LeO.bind ?_ (fun _ => ?_))
      | exact ih0 _ _ _
      | exact laws_eqNodeS.mono _ _ _
      | exact LeO.none _
      | refine LeO.ite ?_ ?_
      | refine LeO.bind ?_ (fun _ => ?_)
theorem laws_eqNodeSS.mono : ∀ a0 a1 k, LeO (laws_eqNodeSS.f k a0 a1) (laws_eqNodeSS.f (k + 1) a0 a1) := by
  intro a0 a1 k
  have ih0 := laws_eqNodeSS.mono_l k
  unfold laws_eqNodeSS.f
  repeat' first
      | (with_reducible exact ih0 _ _ _)
      | (with_reducible exact laws_eqNodeS.mono _ _ _)
      | (with_reducible exact LeO.refl _)
      | (with_reducible exact LeO.none _)
      | (with_reducible refine LeO.ite ?_ ?_)
      | (with_reducible refine LeO.bind ?_ (fun _ => ?_))
      | exact ih0 _ _ _
      | exact laws_eqNodeS.mono _ _ _
      | exact LeO.none _
      | refine LeO.ite ?_ ?_
      | refine LeO.bind ?_ (fun _ => ?_)
def laws_eqNodeSS.T6 : Bool × List (List Nat × List Nat) := (true, [([], []), ([], []), ([0, 1], [0, 1]), ([2], [2]), ([], []), ([], []), ([4, 5], [4, 5]), ([6], [6]), ([3, 7], [3, 7]), ([8], [8])])
def laws_eqNodeSS.B6 : List Nat := [0, 0, 3, 7, 0, 0, 48, 112, 255, 511]
theorem laws_eqNodeSS.tab6 : rtab .any (opsOf Try.f62 6) = laws_eqNodeSS.T6 := by kernel_rfl
theorem laws_eqNodeSS.bits6 : waitsOk laws_eqNodeSS.T6.2 laws_eqNodeSS.B6 = true := by kernel_rfl
set_option maxHeartbeats 8000000 in
set_option maxRecDepth 100000 in
theorem laws_eqNodeSS.calls (k : Nat) (A0 : Option Addr) (c0 : Nat) (l0 : List (List (S87))) (A1 : Option Addr) (c1 : Nat) (l1 : List (List (S87))) (r : Bool) (w : World) (hr0 : Kd.C (Kd.slice 87 k87) w A0 l0.length l0) (hc0 : l0.length ≤ c0) (hr1 : Kd.C (Kd.slice 87 k87) w A1 l1.length l1) (hc1 : l1.length ≤ c1) (h : laws_eqNodeSS.f k l0 l1 = some r) :
    Calls Try.prog 62 #[.slice A0 l0.length c0, .slice A1 l1.length c1] w fun e w' => e = .returned (.bool r) ∧ Below w.heap.size w w' := by
  have HR0 := Aside0.mk hr0
  have HC0 := Aside0.mk hc0
  clear hr0 hc0
  have HR1 := Aside0.mk hr1
  have HC1 := Aside0.mk hc1
  clear hr1 hc1
  have HB := Aside0.mk (Below.refl w.heap.size w)
  have H : (if (l0.length : Int) = (l1.length : Int) then (laws_eqNodeSS.l0 k l0 l1 0) else (some false)) = some r := h
  clear h
  by_cases c3 : (l0.length : Int) = (l1.length : Int)
  · rw [if_pos c3] at H
    have c3b0 : ((l0.length : Int) == (l1.length : Int)) = true := beq_iff_eq.mpr c3
    have c3b1 : ((l0.length : Int) != (l1.length : Int)) = false := bne_eq_false_iff_eq.mpr c3
    have c3b2 : (l0.length == l1.length) = true := by first | simpa using c3 | (simp at c3 ⊢; omega)
    clear c3
    have H' := Aside0.mk H
    clear H
    go_enter Try.func62, Try.ntmps62
    go_wp2
    go_loopg [5] k (fun kq v5 w' => ∃ (x5_1 : Int), v5 = .int .i64 x5_1 ∧ Aside0 (laws_eqNodeSS.l0 kq l0 l1 x5_1 = some r) ∧ Aside0 (kq ≤ k) ∧ Aside0 (Below w.heap.size w w'))
    case atStart => exact ⟨(0), (by first | rfl | (simp; done) | (simp [*]; done)), H', ⟨Nat.le_refl _⟩, ⟨by repeat (first | (with_reducible first | exact HB.out | apply below_alloc | apply pw_below_drewN | apply below_drew1) | exact HB.out)⟩⟩
    case round =>
      clear H'
      try clear c1
      try clear p2
      try clear c3
      try clear c3b0
      try clear c3b1
      try clear c3b2
      obtain ⟨x5_1, rfl, HA, HK1, HB⟩ := hrel
      cases gk with
      | zero => exact absurd HA.out (by simp [laws_eqNodeSS.l0])
      | succ k1 =>
        have H := HA.out
        clear HA
        simp only [laws_eqNodeSS.l0] at H
        by_cases c4 : x5_1 < (l0.length : Int)
        · rw [if_pos c4] at H
          have c4b0 : decide (x5_1 < (l0.length : Int)) = true := decide_eq_true c4
          clear c4
          by_cases c5 : 0 ≤ x5_1
          · rw [if_pos c5] at H
            have c5b0 : decide (0 ≤ x5_1) = true := decide_eq_true c5
            clear c5
            by_cases c6 : x5_1 < (l1.length : Int)
            · rw [if_pos c6] at H
              have c6b0 : decide (x5_1 < (l1.length : Int)) = true := decide_eq_true c6
              clear c6
              replace H := Option.bind_eq_some_iff.mp H
              obtain ⟨t156, A70, H⟩ := H
              replace H : (if t156 = true then (laws_eqNodeSS.l0 k1 l0 l1 (wrap64 (x5_1 + 1))) else (some false)) = some r := H
              have A7 := Aside0.mk A70
              clear A70
              by_cases c8 : t156 = true
              · subst c8
                have H1 : (laws_eqNodeSS.l0 k1 l0 l1 (wrap64 (x5_1 + 1))) = some r := by rw [if_pos rfl] at H; exact H
                clear H
                have H := H1
                clear H1
                have H' := Aside0.mk H
                clear H
                try go_wp2
                have n0_ := Aside0.mk (below_drew1 HB.out)
                clear HB
                have HB := n0_
                clear n0_
                have p154 : 0 ≤ (x5_1 : Int) := of_decide_eq_true (by first | (with_reducible assumption) | assumption)
                have q154 : x5_1 < (l0.length : Int) := of_decide_eq_true (by first | (with_reducible assumption) | assumption)
                obtain ⟨ad154, A154_0, c154_0, e154, hx154_0, hl154_0, hi154_0⟩ := at_L4 HR0.out x5_1 p154 q154
                have hw154_0 := hx154_0
                cases e154
                replace hx154_0 := (HB.out.cell (World.block_lt_of_cell? w _ hx154_0)).trans hx154_0
                have HR154_0 := Aside0.mk hi154_0
                have HC154_0 := Aside0.mk hl154_0
                clear hi154_0 hl154_0
                replace p154 := eq_true p154
                replace q154 := eq_true q154
                have p155 : 0 ≤ (x5_1 : Int) := of_decide_eq_true (by first | (with_reducible assumption) | assumption)
                have q155 : x5_1 < (l1.length : Int) := of_decide_eq_true (by first | (with_reducible assumption) | assumption)
                obtain ⟨ad155, A155_0, c155_0, e155, hx155_0, hl155_0, hi155_0⟩ := at_L4 HR1.out x5_1 p155 q155
                have hw155_0 := hx155_0
                cases e155
                replace hx155_0 := (HB.out.cell (World.block_lt_of_cell? w _ hx155_0)).trans hx155_0
                have HR155_0 := Aside0.mk hi155_0
                have HC155_0 := Aside0.mk hl155_0
                clear hi155_0 hl155_0
                replace p155 := eq_true p155
                replace q155 := eq_true q155
                refine start_ (n := 10) (S := fun w' => w'.cell? (ad154.add (x5_1).toNat) = some (.slice A154_0 (rd_L4 l0 x5_1).length c154_0) ∧ w'.cell? (ad155.add (x5_1).toNat) = some (.slice A155_0 (rd_L4 l1 x5_1).length c155_0)) (ds := []) #[false, false, false, false, false, false, false, false, false, false] (by kernel_rfl) rfl rfl ⟨((HB.out.cell (World.block_lt_of_cell? w _ hw154_0)).trans hw154_0), ((HB.out.cell (World.block_lt_of_cell? w _ hw155_0)).trans hw155_0)⟩ (fun hHeld => ?_); refine with_tabW laws_eqNodeSS.tab6 laws_eqNodeSS.bits6 (fun HT_ HW_ => ?_)
                generalize wr.drew = w9 at HB HR154_0 HR155_0 hx154_0 hx155_0 hHeld ⊢
                refine pure_ (i := 0) (N := some 17) (v := ?_) (a' := ?_) #[true, false, false, false, false, false, false, false, false, false] rfl rfl (any_of HT_.out (by kernel_rfl)) (fun _ _ _ h => h) (Or.inl ⟨by rfl, ?_⟩) ?_ ?_
                rotate_left
                · intro w'
                  go_simp
                  with_reducible rfl
                rotate_left
                · simp only [Act.put, List.setIfInBounds_toArray, List.set_cons_zero, List.set_cons_succ, i64_w, i32_w]
                  rfl
                refine pure_ (i := 1) (N := some 18) (v := ?_) (a' := ?_) #[true, true, false, false, false, false, false, false, false, false] rfl rfl (any_of HT_.out (by kernel_rfl)) (fun _ _ _ h => h) (Or.inl ⟨by rfl, ?_⟩) ?_ ?_
                rotate_left
                · intro w'
                  go_simp
                  with_reducible rfl
                rotate_left
                · simp only [Act.put, List.setIfInBounds_toArray, List.set_cons_zero, List.set_cons_succ, i64_w, i32_w]
                  rfl
                refine pure_ (i := 2) (N := some 19) (v := ?_) (a' := ?_) #[true, true, true, false, false, false, false, false, false, false] rfl rfl (any_of HT_.out (by kernel_rfl)) (fun _ _ _ h => h) (Or.inl ⟨by rfl, ?_⟩) ?_ ?_
                rotate_left
                · intro w'
                  go_simp
                  with_reducible rfl
                rotate_left
                · simp only [Act.put, List.setIfInBounds_toArray, List.set_cons_zero, List.set_cons_succ, i64_w, i32_w]
                  rfl
                refine pure_ (i := 4) (N := some 21) (v := ?_) (a' := ?_) #[true, true, true, false, true, false, false, false, false, false] rfl rfl (any_of HT_.out (by kernel_rfl)) (fun _ _ _ h => h) (Or.inl ⟨by rfl, ?_⟩) ?_ ?_
                rotate_left
                · intro w'
                  go_simp
                  with_reducible rfl
                rotate_left
                · simp only [Act.put, List.setIfInBounds_toArray, List.set_cons_zero, List.set_cons_succ, i64_w, i32_w]
                  rfl
                refine pure_ (i := 5) (N := some 22) (v := ?_) (a' := ?_) #[true, true, true, false, true, true, false, false, false, false] rfl rfl (any_of HT_.out (by kernel_rfl)) (fun _ _ _ h => h) (Or.inl ⟨by rfl, ?_⟩) ?_ ?_
                rotate_left
                · intro w'
                  go_simp
                  with_reducible rfl
                rotate_left
                · simp only [Act.put, List.setIfInBounds_toArray, List.set_cons_zero, List.set_cons_succ, i64_w, i32_w]
                  rfl
                refine pure_ (i := 6) (N := some 23) (v := ?_) (a' := ?_) #[true, true, true, false, true, true, true, false, false, false] rfl rfl (any_of HT_.out (by kernel_rfl)) (fun _ _ _ h => h) (Or.inl ⟨by rfl, ?_⟩) ?_ ?_
                rotate_left
                · intro w'
                  go_simp
                  with_reducible rfl
                rotate_left
                · simp only [Act.put, List.setIfInBounds_toArray, List.set_cons_zero, List.set_cons_succ, i64_w, i32_w]
                  rfl
                refine take_ (i := 3) (N := some 20) (v := ?_) (a' := ?_) #[true, true, true, true, true, true, true, false, false, false] rfl rfl (take_ofW HT_.out HW_.out (by kernel_rfl)) (fun _ _ _ h => h) (Or.inl ⟨by rfl, ?_⟩) hHeld ?_ ?_
                rotate_left
                · rintro w' ⟨s0, s1⟩
                  go_simp
                  with_reducible rfl
                rotate_left
                · simp only [Act.put, List.setIfInBounds_toArray, List.set_cons_zero, List.set_cons_succ, i64_w, i32_w]
                  rfl
                refine take_ (i := 7) (N := some 24) (v := ?_) (a' := ?_) #[true, true, true, true, true, true, true, true, false, false] rfl rfl (take_ofW HT_.out HW_.out (by kernel_rfl)) (fun _ _ _ h => h) (Or.inl ⟨by rfl, ?_⟩) hHeld ?_ ?_
                rotate_left
                · rintro w' ⟨s0, s1⟩
                  go_simp
                  with_reducible rfl
                rotate_left
                · simp only [Act.put, List.setIfInBounds_toArray, List.set_cons_zero, List.set_cons_succ, i64_w, i32_w]
                  rfl
                refine one_ (i := 8) (N := some 25) #[true, true, true, true, true, true, true, true, true, false] rfl rfl (one_of HT_.out (by kernel_rfl)) (by decide) (fun K hK => ?_)
                refine goes_ Try.func24 (by kernel_rfl) rfl #[.slice A154_0 (rd_L4 l0 x5_1).length c154_0, .slice A155_0 (rd_L4 l1 x5_1).length c155_0] (by rfl) rfl rfl (by (try simp only [List.map_toArray, List.map_cons, List.map_nil]); first | done | rfl | (simp only [List.length_drop, List.length_take]; rfl)) ?_
                with_reducible refine (laws_eqNodeS.calls k1 _ _ (rd_L4 l0 x5_1) _ _ (rd_L4 l1 x5_1) true _ ?side1 ?side2 ?side3 ?side4 A7.out).mono ?_
                (case side1 => repeat (first | exact (Kd.C_below HR154_0.out HB.out) | (with_reducible refine Kd.C_alloc ?_ _) | (with_reducible refine Kd.C_drewN ?_ _) | (with_reducible refine Kd.C_drew ?_)))
                (case side2 => exact HC154_0.out)
                (case side3 => repeat (first | exact (Kd.C_below HR155_0.out HB.out) | (with_reducible refine Kd.C_alloc ?_ _) | (with_reducible refine Kd.C_drewN ?_ _) | (with_reducible refine Kd.C_drew ?_)))
                (case side4 => exact HC155_0.out)
                rintro e w10 ⟨rfl, hb⟩
                refine ⟨_, rfl, ?_⟩
                have n0_ := Aside0.mk (below_step (by repeat (first | (with_reducible first | exact HB.out | apply below_alloc | apply pw_below_drewN | apply below_drew1) | exact HB.out)) hb)
                clear HB
                have HB := n0_
                clear n0_
                (try clear hb)
                (try clear hb2)
                (try clear hk)
                (try clear hi)
                refine hK.out _ _ ⟨((HB.out.cell (World.block_lt_of_cell? w _ hw154_0)).trans hw154_0), ((HB.out.cell (World.block_lt_of_cell? w _ hw155_0)).trans hw155_0)⟩ (fun hHeld => ?_)
                clear hK K
                refine norm_ (a' := ?_) ?_ ?_
                rotate_left
                · show Act.put _ (some 25) _ = _
                  simp only [Act.put, List.setIfInBounds_toArray, List.set_cons_zero, List.set_cons_succ, i64_w, i32_w]
                  rfl
                refine pure_ (i := 9) (N := some 26) (v := ?_) (a' := ?_) #[true, true, true, true, true, true, true, true, true, true] rfl rfl (any_of HT_.out (by kernel_rfl)) (fun _ _ _ h => h) (Or.inl ⟨by rfl, ?_⟩) ?_ ?_
                rotate_left
                · intro w'
                  go_simp
                  with_reducible rfl
                rotate_left
                · simp only [Act.put, List.setIfInBounds_toArray, List.set_cons_zero, List.set_cons_succ, i64_w, i32_w]
                  rfl
                refine done_ (done_of HT_.out (by kernel_rfl)) ?_
                try go_wp2
                go_roundg k1
                case measure => have := HK1.out; omega
                case rel => exact ⟨(wrap64 (x5_1 + 1)), (by first | rfl | (simp; done) | (simp [*]; done)), H', ⟨by have := HK1.out; omega⟩, ⟨by repeat (first | (with_reducible first | exact HB.out | apply below_alloc | apply pw_below_drewN | apply below_drew1) | exact HB.out)⟩⟩
              · replace c8 := Bool.eq_false_iff.mpr c8
                subst c8
                have H1 : (some false) = some r := by rw [if_neg (show ¬ (false = true) by decide)] at H; exact H
                clear H
                have H := H1
                clear H1
                obtain rfl := Option.some.inj H
                try go_wp2
                have n0_ := Aside0.mk (below_drew1 HB.out)
                clear HB
                have HB := n0_
                clear n0_
                have p154 : 0 ≤ (x5_1 : Int) := of_decide_eq_true (by first | (with_reducible assumption) | assumption)
                have q154 : x5_1 < (l0.length : Int) := of_decide_eq_true (by first | (with_reducible assumption) | assumption)
                obtain ⟨ad154, A154_0, c154_0, e154, hx154_0, hl154_0, hi154_0⟩ := at_L4 HR0.out x5_1 p154 q154
                have hw154_0 := hx154_0
                cases e154
                replace hx154_0 := (HB.out.cell (World.block_lt_of_cell? w _ hx154_0)).trans hx154_0
                have HR154_0 := Aside0.mk hi154_0
                have HC154_0 := Aside0.mk hl154_0
                clear hi154_0 hl154_0
                replace p154 := eq_true p154
                replace q154 := eq_true q154
                have p155 : 0 ≤ (x5_1 : Int) := of_decide_eq_true (by first | (with_reducible assumption) | assumption)
                have q155 : x5_1 < (l1.length : Int) := of_decide_eq_true (by first | (with_reducible assumption) | assumption)
                obtain ⟨ad155, A155_0, c155_0, e155, hx155_0, hl155_0, hi155_0⟩ := at_L4 HR1.out x5_1 p155 q155
                have hw155_0 := hx155_0
                cases e155
                replace hx155_0 := (HB.out.cell (World.block_lt_of_cell? w _ hx155_0)).trans hx155_0
                have HR155_0 := Aside0.mk hi155_0
                have HC155_0 := Aside0.mk hl155_0
                clear hi155_0 hl155_0
                replace p155 := eq_true p155
                replace q155 := eq_true q155
                refine start_ (n := 10) (S := fun w' => w'.cell? (ad154.add (x5_1).toNat) = some (.slice A154_0 (rd_L4 l0 x5_1).length c154_0) ∧ w'.cell? (ad155.add (x5_1).toNat) = some (.slice A155_0 (rd_L4 l1 x5_1).length c155_0)) (ds := []) #[false, false, false, false, false, false, false, false, false, false] (by kernel_rfl) rfl rfl ⟨((HB.out.cell (World.block_lt_of_cell? w _ hw154_0)).trans hw154_0), ((HB.out.cell (World.block_lt_of_cell? w _ hw155_0)).trans hw155_0)⟩ (fun hHeld => ?_); refine with_tabW laws_eqNodeSS.tab6 laws_eqNodeSS.bits6 (fun HT_ HW_ => ?_)
                generalize wr.drew = w11 at HB HR154_0 HR155_0 hx154_0 hx155_0 hHeld ⊢
                refine pure_ (i := 0) (N := some 17) (v := ?_) (a' := ?_) #[true, false, false, false, false, false, false, false, false, false] rfl rfl (any_of HT_.out (by kernel_rfl)) (fun _ _ _ h => h) (Or.inl ⟨by rfl, ?_⟩) ?_ ?_
                rotate_left
                · intro w'
                  go_simp
                  with_reducible rfl
                rotate_left
                · simp only [Act.put, List.setIfInBounds_toArray, List.set_cons_zero, List.set_cons_succ, i64_w, i32_w]
                  rfl
                refine pure_ (i := 1) (N := some 18) (v := ?_) (a' := ?_) #[true, true, false, false, false, false, false, false, false, false] rfl rfl (any_of HT_.out (by kernel_rfl)) (fun _ _ _ h => h) (Or.inl ⟨by rfl, ?_⟩) ?_ ?_
                rotate_left
                · intro w'
                  go_simp
                  with_reducible rfl
                rotate_left
                · simp only [Act.put, List.setIfInBounds_toArray, List.set_cons_zero, List.set_cons_succ, i64_w, i32_w]
                  rfl
                refine pure_ (i := 2) (N := some 19) (v := ?_) (a' := ?_) #[true, true, true, false, false, false, false, false, false, false] rfl rfl (any_of HT_.out (by kernel_rfl)) (fun _ _ _ h => h) (Or.inl ⟨by rfl, ?_⟩) ?_ ?_
                rotate_left
                · intro w'
                  go_simp
                  with_reducible rfl
                rotate_left
                · simp only [Act.put, List.setIfInBounds_toArray, List.set_cons_zero, List.set_cons_succ, i64_w, i32_w]
                  rfl
                refine pure_ (i := 4) (N := some 21) (v := ?_) (a' := ?_) #[true, true, true, false, true, false, false, false, false, false] rfl rfl (any_of HT_.out (by kernel_rfl)) (fun _ _ _ h => h) (Or.inl ⟨by rfl, ?_⟩) ?_ ?_
                rotate_left
                · intro w'
                  go_simp
                  with_reducible rfl
                rotate_left
                · simp only [Act.put, List.setIfInBounds_toArray, List.set_cons_zero, List.set_cons_succ, i64_w, i32_w]
                  rfl
                refine pure_ (i := 5) (N := some 22) (v := ?_) (a' := ?_) #[true, true, true, false, true, true, false, false, false, false] rfl rfl (any_of HT_.out (by kernel_rfl)) (fun _ _ _ h => h) (Or.inl ⟨by rfl, ?_⟩) ?_ ?_
                rotate_left
                · intro w'
                  go_simp
                  with_reducible rfl
                rotate_left
                · simp only [Act.put, List.setIfInBounds_toArray, List.set_cons_zero, List.set_cons_succ, i64_w, i32_w]
                  rfl
                refine pure_ (i := 6) (N := some 23) (v := ?_) (a' := ?_) #[true, true, true, false, true, true, true, false, false, false] rfl rfl (any_of HT_.out (by kernel_rfl)) (fun _ _ _ h => h) (Or.inl ⟨by rfl, ?_⟩) ?_ ?_
                rotate_left
                · intro w'
                  go_simp
                  with_reducible rfl
                rotate_left
                · simp only [Act.put, List.setIfInBounds_toArray, List.set_cons_zero, List.set_cons_succ, i64_w, i32_w]
                  rfl
                refine take_ (i := 3) (N := some 20) (v := ?_) (a' := ?_) #[true, true, true, true, true, true, true, false, false, false] rfl rfl (take_ofW HT_.out HW_.out (by kernel_rfl)) (fun _ _ _ h => h) (Or.inl ⟨by rfl, ?_⟩) hHeld ?_ ?_
                rotate_left
                · rintro w' ⟨s0, s1⟩
                  go_simp
                  with_reducible rfl
                rotate_left
                · simp only [Act.put, List.setIfInBounds_toArray, List.set_cons_zero, List.set_cons_succ, i64_w, i32_w]
                  rfl
                refine take_ (i := 7) (N := some 24) (v := ?_) (a' := ?_) #[true, true, true, true, true, true, true, true, false, false] rfl rfl (take_ofW HT_.out HW_.out (by kernel_rfl)) (fun _ _ _ h => h) (Or.inl ⟨by rfl, ?_⟩) hHeld ?_ ?_
                rotate_left
                · rintro w' ⟨s0, s1⟩
                  go_simp
                  with_reducible rfl
                rotate_left
                · simp only [Act.put, List.setIfInBounds_toArray, List.set_cons_zero, List.set_cons_succ, i64_w, i32_w]
                  rfl
                refine one_ (i := 8) (N := some 25) #[true, true, true, true, true, true, true, true, true, false] rfl rfl (one_of HT_.out (by kernel_rfl)) (by decide) (fun K hK => ?_)
                refine goes_ Try.func24 (by kernel_rfl) rfl #[.slice A154_0 (rd_L4 l0 x5_1).length c154_0, .slice A155_0 (rd_L4 l1 x5_1).length c155_0] (by rfl) rfl rfl (by (try simp only [List.map_toArray, List.map_cons, List.map_nil]); first | done | rfl | (simp only [List.length_drop, List.length_take]; rfl)) ?_
                with_reducible refine (laws_eqNodeS.calls k1 _ _ (rd_L4 l0 x5_1) _ _ (rd_L4 l1 x5_1) false _ ?side1 ?side2 ?side3 ?side4 A7.out).mono ?_
                (case side1 => repeat (first | exact (Kd.C_below HR154_0.out HB.out) | (with_reducible refine Kd.C_alloc ?_ _) | (with_reducible refine Kd.C_drewN ?_ _) | (with_reducible refine Kd.C_drew ?_)))
                (case side2 => exact HC154_0.out)
                (case side3 => repeat (first | exact (Kd.C_below HR155_0.out HB.out) | (with_reducible refine Kd.C_alloc ?_ _) | (with_reducible refine Kd.C_drewN ?_ _) | (with_reducible refine Kd.C_drew ?_)))
                (case side4 => exact HC155_0.out)
                rintro e w12 ⟨rfl, hb⟩
                refine ⟨_, rfl, ?_⟩
                have n0_ := Aside0.mk (below_step (by repeat (first | (with_reducible first | exact HB.out | apply below_alloc | apply pw_below_drewN | apply below_drew1) | exact HB.out)) hb)
                clear HB
                have HB := n0_
                clear n0_
                (try clear hb)
                (try clear hb2)
                (try clear hk)
                (try clear hi)
                refine hK.out _ _ ⟨((HB.out.cell (World.block_lt_of_cell? w _ hw154_0)).trans hw154_0), ((HB.out.cell (World.block_lt_of_cell? w _ hw155_0)).trans hw155_0)⟩ (fun hHeld => ?_)
                clear hK K
                refine norm_ (a' := ?_) ?_ ?_
                rotate_left
                · show Act.put _ (some 25) _ = _
                  simp only [Act.put, List.setIfInBounds_toArray, List.set_cons_zero, List.set_cons_succ, i64_w, i32_w]
                  rfl
                refine pure_ (i := 9) (N := some 26) (v := ?_) (a' := ?_) #[true, true, true, true, true, true, true, true, true, true] rfl rfl (any_of HT_.out (by kernel_rfl)) (fun _ _ _ h => h) (Or.inl ⟨by rfl, ?_⟩) ?_ ?_
                rotate_left
                · intro w'
                  go_simp
                  with_reducible rfl
                rotate_left
                · simp only [Act.put, List.setIfInBounds_toArray, List.set_cons_zero, List.set_cons_succ, i64_w, i32_w]
                  rfl
                refine done_ (done_of HT_.out (by kernel_rfl)) ?_
                try go_wp2
                go_ret
                exact ⟨by first | rfl | (simp [errW_none, errW_some] <;> rfl) | (simp [*, errW_none, errW_some] <;> rfl), by repeat (first | (with_reducible first | exact HB.out | apply below_alloc | apply pw_below_drewN | apply below_drew1) | exact HB.out)⟩
            · rw [if_neg c6] at H
              exact absurd H (by simp)
          · rw [if_neg c5] at H
            exact absurd H (by simp)
        · rw [if_neg c4] at H
          have c4b0 : decide (x5_1 < (l0.length : Int)) = false := decide_eq_false c4
          clear c4
          obtain rfl := Option.some.inj H
          go_wp2
          go_ret
          exact ⟨by first | rfl | (simp [errW_none, errW_some] <;> rfl) | (simp [*, errW_none, errW_some] <;> rfl), by repeat (first | (with_reducible first | exact HB.out | apply below_alloc | apply pw_below_drewN | apply below_drew1) | exact HB.out)⟩
  · rw [if_neg c3] at H
    have c3b0 : ((l0.length : Int) == (l1.length : Int)) = false := beq_eq_false_iff_ne.mpr c3
    have c3b1 : ((l0.length : Int) != (l1.length : Int)) = true := bne_iff_ne.mpr c3
    have c3b2 : (l0.length == l1.length) = false := by first | simpa using c3 | (simp at c3 ⊢; omega)
    obtain rfl := Option.some.inj H
    go_enter Try.func62, Try.ntmps62
    go_wp2
    go_ret
    exact ⟨by first | rfl | (simp [errW_none, errW_some] <;> rfl) | (simp [*, errW_none, errW_some] <;> rfl), by repeat (first | (with_reducible first | exact HB.out | apply below_alloc | apply pw_below_drewN | apply below_drew1) | exact HB.out)⟩

/-! ### laws.markNodeSS: function 63, by hand -/
theorem markS_run (n : Nat) (hn : n ≤ 140737480000000) (m0 : Nat) (hm0 : m0 ≤ 300000000) (d : Nat) : ∀ (k i : Nat) (x : List S87), i + d = n → x.length = n → d < k → ∃ y, laws_markNodeS.l0 k x ((m0 + 2 * i : Nat) : Int) (i : Int) = some (((m0 + 2 * n : Nat) : Int), y) := by
  induction d with
  | zero =>
    intro k i x hi hl hk
    obtain ⟨k, rfl⟩ : ∃ m, k = m + 1 := ⟨k - 1, by omega⟩
    simp only [laws_markNodeS.l0]
    rw [if_neg (by omega), show i = n by omega]
    exact ⟨_, rfl⟩
  | succ d ih =>
    intro k i x hi hl hk
    obtain ⟨k, rfl⟩ : ∃ m, k = m + 1 := ⟨k - 1, by omega⟩
    simp only [laws_markNodeS.l0, Option.bind_some]
    have e1 : wrap64 (((m0 + 2 * i : Nat) : Int) + 1) = ((m0 + 2 * i + 1 : Nat) : Int) := by unfold wrap64; omega
    have e2 : wrap64 (((m0 + 2 * i + 1 : Nat) : Int) + 1) = ((m0 + 2 * (i + 1) : Nat) : Int) := by unfold wrap64; omega
    have e3 : wrap64 ((i : Int) + 1) = ((i + 1 : Nat) : Int) := by unfold wrap64; omega
    rw [if_pos (by omega), if_pos (by omega), e1, e2, e3]
    exact ih k (i + 1) _ (by omega) (by simpa using hl) (by omega)
theorem markS_f (x : List S87) (hn : x.length ≤ 140737480000000) (m0 : Nat) (hm0 : m0 ≤ 300000000) : ∃ y, laws_markNodeS.f (x.length + 1) x (m0 : Int) = some (((m0 + 2 * x.length : Nat) : Int), y) :=
  markS_run x.length hn m0 hm0 x.length (x.length + 1) 0 x (by omega) rfl (by omega)
theorem flatS_take_succ {α : Type} (ls : List (List α)) (i : Nat) (h : i < ls.length) : (ls.take (i + 1)).flatten.length = (ls.take i).flatten.length + (ls.getD i []).length := by
  rw [List.take_succ_eq_append_getElem h, List.flatten_append, List.getD_eq_getElem?_getD, List.getElem?_eq_getElem h]
  simp
theorem flatS_take_le {α : Type} (ls : List (List α)) (i : Nat) : (ls.take i).flatten.length ≤ ls.flatten.length := by
  conv => rhs; rw [← List.take_append_drop i ls, List.flatten_append, List.length_append]
  omega
set_option maxHeartbeats 8000000 in
set_option maxRecDepth 100000 in
theorem markNodeSS_told (P0_ : Nat → Prop) (u : Value) (l0 : List (List S87)) (m0 : Nat) (w0 w : World) (hB : Below w0.heap.size w0 w) (ho0 : Kd.S (Kd.slice 87 k87) 25 w w0.heap.size P0_ u l0) (hl : l0.length ≤ 100000000) (hm : m0 + 2 * l0.flatten.length ≤ 300000000) :
    Calls Try.prog 63 #[u, .int .i64 (m0 : Int)] w fun e w' => e = .returned (.int .i64 ((m0 + 2 * l0.flatten.length : Nat) : Int)) ∧ Below w0.heap.size w0 w' ∧ Kept w w' P0_ := by
  have HO := Aside0.mk (Kd.S_mono (ok' := fun k => P0_ k ∨ w.heap.size ≤ k) ho0 (fun k hk => .inl hk))
  obtain ⟨A, c, rfl⟩ := Kd.S_slice ho0
  obtain ⟨L, hL⟩ : ∃ L : Nat → Nat, ∀ i, L i = m0 + 2 * (l0.take i).flatten.length := ⟨_, fun _ => rfl⟩
  obtain ⟨M, hM⟩ : ∃ M : Nat, M = m0 + 2 * l0.flatten.length := ⟨_, rfl⟩
  have HL0 : Aside0 (L 0 = m0) := ⟨by rw [hL]; simp⟩
  have HLS : Aside0 (∀ i, i < l0.length → L (i + 1) = L i + 2 * (l0.getD i []).length ∧ L (i + 1) ≤ M) := ⟨fun i hi => by have h1 := flatS_take_le l0 (i + 1); have h2 := flatS_take_succ l0 i hi; rw [hL, hL, hM]; omega⟩
  have HLN : Aside0 (L l0.length = M) := ⟨by rw [hL, List.take_length, hM]⟩
  have HM : Aside0 (M ≤ 300000000) := ⟨by rw [hM]; exact hm⟩
  have HLE : Aside0 (∀ i, i ≤ l0.length → L i ≤ M) := ⟨fun i hi => by rw [hL, hM]; have := flatS_take_le l0 i; omega⟩
  have HL := Aside0.mk hl
  have HB := Aside0.mk hB
  rw [← hM]
  have hm0 : (m0 : Int) = (L 0 : Int) := by rw [HL0.out]
  rw [hm0]
  clear ho0 hL hM hl hm hB hm0
  go_enter Try.func63, Try.ntmps63
  go_wp2
  go_loopg [1, 5] l0.length (fun gg v1 v5 wr => ∃ i : Nat, v5 = .int .i64 (i : Int) ∧ v1 = .int .i64 (L i : Int) ∧ Aside0 (i ≤ l0.length ∧ l0.length - i ≤ gg) ∧ Aside0 (∃ ys : List (List S87), ys.length = l0.length ∧ (∀ j, i ≤ j → ys.getD j [] = l0.getD j []) ∧ Kd.S (Kd.slice 87 k87) 25 wr w0.heap.size (fun k => P0_ k ∨ w.heap.size ≤ k) (.slice A l0.length c) ys) ∧ Aside0 (Below w0.heap.size w0 wr) ∧ Aside0 (Kept w wr P0_))
  case atStart => exact ⟨0, rfl, rfl, ⟨Nat.zero_le _, Nat.le_refl _⟩, ⟨l0, rfl, fun j _ => rfl, HO.out⟩, HB, ⟨Kept.refl w P0_⟩⟩
  case round =>
    obtain ⟨i, rfl, rfl, A1, Y1, B1, K1⟩ := hrel
    by_cases c2 : i < l0.length
    · obtain ⟨ys, hyl, hyj, hS⟩ := Y1.out
      obtain ⟨g, cap, eA, -, -, -⟩ := Kd.S_form hS (by omega)
      rw [hyl] at eA
      injection eA with eA _ eC
      subst eA eC
      obtain ⟨oki, cs, hcl, hM, hcc, hfr, hoki, hH⟩ := Kd.S_elem hS [] (i : Int) (by omega) (by omega)
      obtain ⟨v, rfl, hR⟩ := hM
      rw [Int.toNat_natCast] at hR hcc
      rw [hyj i (Nat.le_refl _)] at hR
      have hx := hcc 0 v rfl
      simp only [show ((Kd.slice 87 k87)).sz = 1 from rfl, Nat.mul_one, Nat.add_zero] at hx
      have hls := HLS.out i c2
      have hle := HLE.out i (by omega)
      have hMb := HM.out
      obtain ⟨y, hy⟩ := markS_f (l0.getD i []) (by omega) (L i) (by omega)
      have hcall := laws_markNodeS.calls _ oki v (l0.getD i []) (L i : Int) _ y w0 wr B1.out hR hy
      rw [show L i + 2 * (l0.getD i []).length = L (i + 1) from hls.1.symm] at hcall
      have HCALL : Aside0 (Calls Try.prog 34 #[v, .int .i64 (L i : Int)] wr fun e w' => e = .returned (.int .i64 (L (i + 1) : Int)) ∧ Aside0 (∃ ys : List (List S87), ys.length = l0.length ∧ (∀ j, i + 1 ≤ j → ys.getD j [] = l0.getD j []) ∧ Kd.S (Kd.slice 87 k87) 25 w' w0.heap.size (fun k => P0_ k ∨ w.heap.size ≤ k) (.slice (some ⟨g, 0, none⟩) l0.length c) ys) ∧ Aside0 (Below w0.heap.size w0 w') ∧ Aside0 (Kept w w' P0_)) := by
        refine ⟨hcall.mono ?_⟩
        rintro e w' ⟨rfl, h1, h2, h3⟩
        have hsz := K1.out.1
        have hH1 := Kd.H_kept (Kd.H_widen hH) h3 (fun k _ hn hk => hn (.inl hk))
        have hS1 := Kd.H_back hH1 (x' := y) (okp := fun k => oki k ∨ wr.heap.size ≤ k) ⟨v, rfl, h1⟩ (fun k hk => hk.imp id (fun h => ⟨.inr (by omega), h⟩))
        rw [Int.toNat_natCast] at hS1
        refine ⟨rfl, ⟨ys.set i y, by rw [List.length_set]; exact hyl, fun j hj => ?_, hS1⟩, ⟨h2⟩, ⟨Kept.then_ K1.out h3 (fun k hk => (hoki k hk).1)⟩⟩
        have : (ys.set i y).getD j [] = ys.getD j [] := by
          rw [List.getD_eq_getElem?_getD, List.getD_eq_getElem?_getD, List.getElem?_set_ne (by omega)]
        rw [this]
        exact hyj j (by omega)
      have c2t : ((i : Int) < (l0.length : Int)) = True := eq_true (by omega)
      have C2 := Aside0.mk c2
      obtain ⟨Av, cv, rfl, -, -⟩ := Kd.R_reads hR
      generalize l0.getD i [] = x at hx HCALL
      clear c2 hyl hyj hS hcl hcc hfr hoki hH hR hls hle hMb hy hcall Y1 HO
      go_wp2_with (go_at_call 34; (with_reducible refine HCALL.out.mono ?_); rintro e w' ⟨rfl, Y2, B2, K2⟩)
      go_roundg (l0.length - (i + 1))
      case measure => have := A1.out; have := C2.out; omega
      case rel =>
        refine ⟨i + 1, ?_, rfl, ⟨C2.out, Nat.le_refl _⟩, Y2, B2, K2⟩
        congr 1; have := HL.out; have := C2.out; unfold wrap64; omega
    · have hi : i = l0.length := by have := A1.out; omega
      have c2t : ((i : Int) < (l0.length : Int)) = False := eq_false (by omega)
      have e : L i = M := by rw [hi]; exact HLN.out
      rw [e]
      clear c2 hi e HO
      go_wp2
      go_ret
      exact ⟨rfl, B1.out, K1.out⟩

/-! ### laws.FnExactPutAll: function 14, by hand -/
/-- What a law holds while it goes on: the reference's list and the program's, apart from the argument's copy (blocks a to b). -/
structure Hold (w W : World) (a b : Nat) (v6 v9 : Value) (p q : List S87) : Prop where
  below : Below w.heap.size w W
  r6 : Kd.R k87 87 W w.heap.size (fun k => k < a) v6 p
  r9 : Kd.R k87 87 W w.heap.size (fun k => b ≤ k) v9 q
  lo : w.heap.size ≤ a
  ab : a ≤ b
  hi : b ≤ W.heap.size
theorem Hold.step {w W W' : World} {a b : Nat} {v6 v9 : Value} {p q : List S87} (h : Hold w W a b v6 v9 p q) (hb : Below W.heap.size W W') : Hold w W' a b v6 v9 p q :=
  ⟨below_step h.below hb, Kd.R_below h.r6 hb, Kd.R_below h.r9 hb, h.lo, h.ab, Nat.le_trans h.hi hb.size⟩
theorem Hold.drew {w W : World} {a b : Nat} {v6 v9 : Value} {p q : List S87} (h : Hold w W a b v6 v9 p q) (n : Nat) : Hold w (W.drewN n) a b v6 v9 p q := h.step (pw_below_drewN (Below.refl _ _) n)
theorem Hold.kept {w W W' : World} {a b : Nat} {v6 v9 : Value} {p q : List S87} (h : Hold w W a b v6 v9 p q) (hk : Kept W W' (fun k => a ≤ k ∧ k < b)) (hb : Below w.heap.size w W') : Hold w W' a b v6 v9 p q :=
  ⟨hb, Kd.R_kept h.r6 hk (fun k hk h2 => by have := h2.1; omega), Kd.R_kept h.r9 hk (fun k hk h2 => by have := h2.2; omega), h.lo, h.ab, Nat.le_trans h.hi hk.1⟩
theorem Hold.mark {w W W' : World} {a b : Nat} {v6 v9 : Value} {p q q' : List S87} (h : Hold w W a b v6 v9 p q) (hk : Kept W W' (fun k => b ≤ k)) (hr : Kd.R k87 87 W' w.heap.size (fun k => b ≤ k ∨ W.heap.size ≤ k) v9 q') (hb : Below w.heap.size w W') : Hold w W' a b v6 v9 p q' :=
  ⟨hb, Kd.R_kept h.r6 hk (fun k hk h2 => by have := h.ab; omega), Kd.R_mono hr (fun k hk => hk.elim id (fun h2 => Nat.le_trans h.hi h2)), h.lo, h.ab, Nat.le_trans h.hi hk.1⟩
theorem put_start {w w2 w3 w4 w5 w6 w7 w8 : World} {v3 v4 v5 v6 v7 v8 : Value} {p1 q1 L0 : List S87} {L1 : List (List S87)} (B2 : Aside0 (Below w.heap.size w w2)) (Z3 : Aside0 (Kd.R k87 87 w3 w2.heap.size (fun _ => True) v3 L0 ∧ Below w2.heap.size w2 w3)) (Z4 : Aside0 (Kd.S (Kd.slice 87 k87) 25 w4 w3.heap.size (fun _ => True) v4 L1 ∧ Below w3.heap.size w3 w4))
    (Z5 : Aside0 (Kd.R k87 87 w5 w4.heap.size (fun _ => True) v5 p1 ∧ Below w4.heap.size w4 w5)) (Z6 : Aside0 (Kd.R k87 87 w6 w5.heap.size (fun _ => True) v6 L0 ∧ Below w5.heap.size w5 w6)) (Z7 : Aside0 (Kd.S (Kd.slice 87 k87) 25 w7 w6.heap.size (fun _ => True) v7 L1 ∧ Below w6.heap.size w6 w7)) (Z8 : Aside0 (Kd.R k87 87 w8 w7.heap.size (fun _ => True) v8 q1 ∧ Below w7.heap.size w7 w8)) :
    Aside0 (Hold w w8 w5.heap.size w7.heap.size v5 v8 p1 q1 ∧ (Kd.R k87 87 w8 w.heap.size (fun k => w5.heap.size ≤ k ∧ k < w6.heap.size) v6 L0 ∧ Kd.S (Kd.slice 87 k87) 25 w8 w.heap.size (fun k => w6.heap.size ≤ k ∧ k < w7.heap.size) v7 L1) ∧ w5.heap.size ≤ w6.heap.size ∧ w6.heap.size ≤ w7.heap.size) := by
  have b3 := below_step B2.out Z3.out.2
  have b4 := below_step b3 Z4.out.2
  have b5 := below_step b4 Z5.out.2
  have b6 := below_step b5 Z6.out.2
  have b7 := below_step b6 Z7.out.2
  have b58 := below_step (below_step Z6.out.2 Z7.out.2) Z8.out.2
  refine ⟨⟨below_step b7 Z8.out.2, ?_, ?_, b5.size, Nat.le_trans Z6.out.2.size Z7.out.2.size, Z8.out.2.size⟩, ⟨?_, ?_⟩, Z6.out.2.size, Z7.out.2.size⟩
  · exact Kd.R_below (Kd.R_lower (Kd.R_mono (ok' := fun k => k < w5.heap.size) (Kd.R_bound Z5.out.1) (fun k hk => hk.2.2.1)) b4.size) b58
  · exact Kd.R_lower (Kd.R_mono (ok' := fun k => w7.heap.size ≤ k) (Kd.R_bound Z8.out.1) (fun k hk => hk.2.1)) b7.size
  · exact Kd.R_below (Kd.R_lower (Kd.R_mono (ok' := fun k => w5.heap.size ≤ k ∧ k < w6.heap.size) (Kd.R_bound Z6.out.1) (fun k hk => ⟨hk.2.1, hk.2.2.1⟩)) b5.size) (below_step Z7.out.2 Z8.out.2)
  · exact Kd.S_below (Kd.S_lower (Kd.S_mono (ok' := fun k => w6.heap.size ≤ k ∧ k < w7.heap.size) (Kd.S_bound Z7.out.1) (fun k hk => ⟨hk.2.1, hk.2.2.1⟩)) b6.size) Z8.out.2
def laws_FnExactPutAll.f (k : Nat) (l0 : List S90) (l1 : List (List S90)) : Option Bool :=
  (laws_szNodeS.f l0 1048576).bind fun t0 => if t0 < 0 then some true else
    (laws_szNodeSS.f k l1 t0).bind fun t => if t < 0 then some true else
    (laws_toNodeS.f k l0).bind fun L0 => (laws_toNodeSS.f k l1).bind fun L1 => (spec_PutAll.f k L0 L1).bind fun p => (impl_PutAll.f L0 L1).bind fun q =>
      (laws_eqNodeS.f k q.1 p.1).bind fun e1 => (laws_eqNodeS.f k L0 L0).bind fun e0 => (laws_eqNodeSS.f k L1 L1).bind fun e2 => (laws_markNodeS.f k q.1 1).bind fun m => (laws_heldNodeS.f k m.2 1).bind fun h =>
        if (e1 = true ∧ e0 = true ∧ e2 = true ∧ q.2 = p.2) ∧ L0.length ≤ 10000000 ∧ L1.length ≤ 100000000 ∧ L1.flatten.length ≤ 100000000 ∧ 0 ≤ h ∧ h = m.1 then some true else none
set_option maxHeartbeats 8000000 in
set_option maxRecDepth 100000 in
theorem laws_FnExactPutAll.calls (k : Nat) (A0 : Option Addr) (c0 : Nat) (l0 : List S90) (A1 : Option Addr) (c1 : Nat) (l1 : List (List S90)) (r : Bool) (w : World) (hr0 : Kd.C k90 w A0 l0.length l0) (hc0 : l0.length ≤ c0) (hr1 : Kd.C (Kd.slice 90 k90) w A1 l1.length l1) (hc1 : l1.length ≤ c1) (h : laws_FnExactPutAll.f k l0 l1 = some r) :
    Calls Try.prog 14 #[.slice A0 l0.length c0, .slice A1 l1.length c1] w fun e w' => e = .returned (.bool r) ∧ Below w.heap.size w w' := by
  unfold laws_FnExactPutAll.f at h
  obtain ⟨t0, ht0, h⟩ := Option.bind_eq_some_iff.1 h
  have HSZ0 : Aside0 (Calls Try.prog 20 #[.slice A0 l0.length c0, .int .i64 1048576] w fun e w' => e = .returned (.int .i64 t0) ∧ Below w.heap.size w w') := ⟨(laws_szNodeS.calls A0 c0 l0 1048576 t0 w hr0 hc0 ht0).mono fun e w' ⟨h, k⟩ => ⟨h, k.below⟩⟩
  by_cases htn0 : t0 < 0
  · rw [if_pos htn0] at h
    obtain rfl := Option.some.inj h
    clear h ht0 hr1 hc1 hr0 hc0
    go_enter Try.func14, Try.ntmps14
    go_wp2_with (go_at_call 20; (with_reducible refine HSZ0.out.mono ?_); rintro e w1 ⟨rfl, hb⟩; have HB := Aside0.mk hb; clear hb)
    go_ret
    exact ⟨rfl, HB.out⟩
  rw [if_neg htn0] at h
  have n0 : (t0 < 0) = False := eq_false htn0
  obtain ⟨t, ht, h⟩ := Option.bind_eq_some_iff.1 h
  have HSZ : Aside0 (∀ W, Below w.heap.size w W → Calls Try.prog 58 #[.slice A1 l1.length c1, .int .i64 t0] W fun e w' => e = .returned (.int .i64 t) ∧ Aside0 (Below w.heap.size w w')) := ⟨fun W hW => (laws_szNodeSS.calls k A1 c1 l1 t0 t W (Kd.C_below hr1 hW) hc1 ht).mono fun e w' ⟨h, k⟩ => ⟨h, ⟨below_step hW k.below⟩⟩⟩
  by_cases htn : t < 0
  · rw [if_pos htn] at h
    obtain rfl := Option.some.inj h
    clear h ht ht0 htn0 hr1 hc1 hr0 hc0
    go_enter Try.func14, Try.ntmps14
    go_wp2_with (first
      | (go_at_call 20; (with_reducible refine HSZ0.out.mono ?_); rintro e w1 ⟨rfl, hb⟩; have B1 := Aside0.mk hb; clear hb)
      | (go_at_call 58; (with_reducible refine (HSZ.out _ B1.out).mono ?_); rintro e w2 ⟨rfl, B2⟩))
    go_ret
    exact ⟨rfl, B2.out⟩
  · rw [if_neg htn] at h
    obtain ⟨L0, hto0, h⟩ := Option.bind_eq_some_iff.1 h
    obtain ⟨L1, hto, h⟩ := Option.bind_eq_some_iff.1 h
    obtain ⟨p, hsp, h⟩ := Option.bind_eq_some_iff.1 h
    obtain ⟨q, him, h⟩ := Option.bind_eq_some_iff.1 h
    obtain ⟨e1, he1, h⟩ := Option.bind_eq_some_iff.1 h
    obtain ⟨e0, he0, h⟩ := Option.bind_eq_some_iff.1 h
    obtain ⟨e2, he2, h⟩ := Option.bind_eq_some_iff.1 h
    obtain ⟨m, hma, h⟩ := Option.bind_eq_some_iff.1 h
    obtain ⟨hh, hhe, h⟩ := Option.bind_eq_some_iff.1 h
    by_cases hc : (e1 = true ∧ e0 = true ∧ e2 = true ∧ q.2 = p.2) ∧ L0.length ≤ 10000000 ∧ L1.length ≤ 100000000 ∧ L1.flatten.length ≤ 100000000 ∧ 0 ≤ hh ∧ hh = m.1
    · rw [if_pos hc] at h
      obtain rfl := Option.some.inj h
      obtain ⟨⟨rfl, rfl, rfl, hqp⟩, hL0, hL1, hL2, hh0, hhm⟩ := hc
      obtain ⟨p1, pb⟩ := p
      obtain ⟨q1, qb⟩ := q
      obtain ⟨m1, m2⟩ := m
      simp only at hqp hhm he1 hma hhe
      subst hqp hhm
      obtain ⟨M0, hM0⟩ : ∃ M : Nat, M = 1 + 2 * L0.length := ⟨_, rfl⟩
      obtain ⟨M, hM⟩ : ∃ M : Nat, M = M0 + 2 * L1.flatten.length := ⟨_, rfl⟩
      have HTO0 : Aside0 (∀ W, Below w.heap.size w W → Calls Try.prog 22 #[.slice A0 l0.length c0] W fun e w' => ∃ v, e = .returned v ∧ Aside0 (Kd.R k87 87 w' W.heap.size (fun _ => True) v L0 ∧ Below W.heap.size W w')) := by
        refine ⟨fun W hW => (laws_toNodeS.calls k A0 c0 l0 L0 W (Kd.C_below hr0 hW) hc0 hto0).mono ?_⟩
        rintro e w' ⟨v, rfl, hS, hb⟩
        exact ⟨v, rfl, ⟨hS, hb⟩⟩
      have HTO : Aside0 (∀ W, Below w.heap.size w W → Calls Try.prog 60 #[.slice A1 l1.length c1] W fun e w' => ∃ v, e = .returned v ∧ Aside0 (Kd.S (Kd.slice 87 k87) 25 w' W.heap.size (fun _ => True) v L1 ∧ Below W.heap.size W w')) := by
        refine ⟨fun W hW => (laws_toNodeSS.calls k A1 c1 l1 L1 W (Kd.C_below hr1 hW) hc1 hto).mono ?_⟩
        rintro e w' ⟨v, rfl, hS, hb⟩
        exact ⟨v, rfl, ⟨hS, hb⟩⟩
      have HSP : Aside0 (∀ W b0 b1 u v, Kd.R k87 87 W b0 (fun _ => True) u L0 → Kd.S (Kd.slice 87 k87) 25 W b1 (fun _ => True) v L1 → Calls Try.prog 59 #[u, v] W fun e w' => ∃ v6, e = .returned (.tuple #[v6, .bool qb]) ∧ Aside0 (Kd.R k87 87 w' W.heap.size (fun _ => True) v6 p1 ∧ Below W.heap.size W w')) := by
        refine ⟨fun W b0 b1 u v hR hS => ?_⟩
        obtain ⟨A, c, rfl, hlc0, hC0⟩ := Kd.R_reads hR
        obtain ⟨A', c', rfl, hlc, hC⟩ := Kd.S_reads hS
        exact (spec_PutAll.calls k A c L0 A' c' L1 p1 qb W hC0 hlc0 hC hlc hsp).mono fun e w' ⟨v, h1, h2, h3⟩ => ⟨v, h1, ⟨h2, h3⟩⟩
      have HIM : Aside0 (∀ W b0 b1 u v, Kd.R k87 87 W b0 (fun _ => True) u L0 → Kd.S (Kd.slice 87 k87) 25 W b1 (fun _ => True) v L1 → Calls Try.prog 61 #[u, v] W fun e w' => ∃ v6, e = .returned (.tuple #[v6, .bool qb]) ∧ Aside0 (Kd.R k87 87 w' W.heap.size (fun _ => True) v6 q1 ∧ Below W.heap.size W w')) := by
        refine ⟨fun W b0 b1 u v hR hS => ?_⟩
        obtain ⟨A, c, rfl, hlc0, hC0⟩ := Kd.R_reads hR
        obtain ⟨A', c', rfl, hlc, hC⟩ := Kd.S_reads hS
        exact (impl_PutAll.calls A c L0 A' c' L1 q1 qb W hC0 hlc0 hC hlc him).mono fun e w' ⟨v, h1, h2, h3⟩ => ⟨v, h1, ⟨h2, h3⟩⟩
      have HEQ : Aside0 (∀ W a b v6 v9, Hold w W a b v6 v9 p1 q1 → Calls Try.prog 24 #[v9, v6] W fun e w' => e = .returned (.bool true) ∧ Aside0 (Hold w w' a b v6 v9 p1 q1 ∧ Below W.heap.size W w')) := by
        refine ⟨fun W a b v6 v9 hH => ?_⟩
        obtain ⟨A6, c6, rfl, h6, C6⟩ := Kd.R_reads hH.r6
        obtain ⟨A9, c9, rfl, h9, C9⟩ := Kd.R_reads hH.r9
        refine (laws_eqNodeS.calls k A9 c9 q1 A6 c6 p1 true W C9 h9 C6 h6 he1).mono ?_
        rintro e w' ⟨rfl, hd⟩
        exact ⟨rfl, ⟨hH.step hd, hd⟩⟩
      have HEQ2 : Aside0 (∀ W a b v6 v9 v14 b0, Hold w W a b v6 v9 p1 m2 → Kd.R k87 87 W b0 (fun _ => True) v14 q1 → Calls Try.prog 24 #[v14, v6] W fun e w' => e = .returned (.bool true) ∧ Aside0 (Hold w w' a b v6 v9 p1 m2)) := by
        refine ⟨fun W a b v6 v9 v14 b0 hH hR => ?_⟩
        obtain ⟨A6, c6, rfl, h6, C6⟩ := Kd.R_reads hH.r6
        obtain ⟨A9, c9, rfl, h9, C9⟩ := Kd.R_reads hR
        refine (laws_eqNodeS.calls k A9 c9 q1 A6 c6 p1 true W C9 h9 C6 h6 he1).mono ?_
        rintro e w' ⟨rfl, hd⟩
        exact ⟨rfl, ⟨hH.step hd⟩⟩
      have HE0 : Aside0 (∀ W b0 b1 ok ok' u v, Kd.R k87 87 W b0 ok u L0 → Kd.R k87 87 W b1 ok' v L0 → Calls Try.prog 24 #[u, v] W fun e w' => e = .returned (.bool true) ∧ Aside0 (Below W.heap.size W w')) := by
        refine ⟨fun W b0 b1 ok ok' u v hS hS' => ?_⟩
        obtain ⟨A6, c6, rfl, h6, C6⟩ := Kd.R_reads hS
        obtain ⟨A9, c9, rfl, h9, C9⟩ := Kd.R_reads hS'
        exact (laws_eqNodeS.calls k A6 c6 L0 A9 c9 L0 true W C6 h6 C9 h9 he0).mono fun e w' ⟨h, k⟩ => ⟨h, ⟨k⟩⟩
      have HES : Aside0 (∀ W b0 b1 ok ok' u v, Kd.S (Kd.slice 87 k87) 25 W b0 ok u L1 → Kd.S (Kd.slice 87 k87) 25 W b1 ok' v L1 → Calls Try.prog 62 #[u, v] W fun e w' => e = .returned (.bool true) ∧ Aside0 (Below W.heap.size W w')) := by
        refine ⟨fun W b0 b1 ok ok' u v hS hS' => ?_⟩
        obtain ⟨A6, c6, rfl, h1, C1⟩ := Kd.S_reads hS
        obtain ⟨A9, c9, rfl, h2, C2⟩ := Kd.S_reads hS'
        exact (laws_eqNodeSS.calls k A6 c6 L1 A9 c9 L1 true W C1 h1 C2 h2 he2).mono fun e w' ⟨h, k⟩ => ⟨h, ⟨k⟩⟩
      have HM0 : Aside0 (∀ W a c b v6 v9 u v, Hold w W a b v6 v9 p1 q1 → c ≤ b → Kd.R k87 87 W w.heap.size (fun k => a ≤ k ∧ k < c) u L0 → Kd.S (Kd.slice 87 k87) 25 W w.heap.size (fun k => c ≤ k ∧ k < b) v L1 → Calls Try.prog 34 #[u, .int .i64 1] W fun e w' => e = .returned (.int .i64 (M0 : Int)) ∧ Aside0 (Hold w w' a b v6 v9 p1 q1 ∧ Kd.S (Kd.slice 87 k87) 25 w' w.heap.size (fun k => c ≤ k ∧ k < b) v L1)) := by
        refine ⟨fun W a c b v6 v9 u v hH hcb hR hS => ?_⟩
        obtain ⟨y, hy⟩ := markS_f L0 (by omega) 1 (by omega)
        have := laws_markNodeS.calls _ _ u L0 1 _ y w W hH.below hR hy
        rw [← hM0] at this
        refine this.mono ?_
        rintro e w' ⟨rfl, h1, h2, h3⟩
        exact ⟨rfl, ⟨hH.kept (Kept.mono h3 (fun k hk => ⟨hk.1, Nat.lt_of_lt_of_le hk.2 hcb⟩)) h2, Kd.S_kept hS h3 (fun k hk hk2 => by have := hk.1; have := hk2.2; omega)⟩⟩
      have HMS : Aside0 (∀ W a c b v6 v9 v, Hold w W a b v6 v9 p1 q1 → a ≤ c → Kd.S (Kd.slice 87 k87) 25 W w.heap.size (fun k => c ≤ k ∧ k < b) v L1 → Calls Try.prog 63 #[v, .int .i64 (M0 : Int)] W fun e w' => e = .returned (.int .i64 (M : Int)) ∧ Aside0 (Hold w w' a b v6 v9 p1 q1)) := by
        refine ⟨fun W a c b v6 v9 v hH hac hS => ?_⟩
        have := markNodeSS_told (fun k => c ≤ k ∧ k < b) v L1 M0 w W hH.below hS hL1 (by omega)
        rw [← hM] at this
        refine this.mono ?_
        rintro e w' ⟨rfl, h1, h2⟩
        exact ⟨rfl, ⟨hH.kept (Kept.mono h2 (fun k hk => ⟨Nat.le_trans hac hk.1, hk.2⟩)) h1⟩⟩
      have HMA : Aside0 (∀ W a b v6 v9, Hold w W a b v6 v9 p1 q1 → Calls Try.prog 34 #[v9, .int .i64 1] W fun e w' => e = .returned (.int .i64 hh) ∧ Aside0 (Hold w w' a b v6 v9 p1 m2)) := by
        refine ⟨fun W a b v6 v9 hH => ?_⟩
        refine (laws_markNodeS.calls k _ v9 q1 1 hh m2 w W hH.below hH.r9 hma).mono ?_
        rintro e w' ⟨rfl, h1, h2, h3⟩
        exact ⟨rfl, ⟨hH.mark h3 h1 h2⟩⟩
      have HHE : Aside0 (∀ W a b v6 v9, Hold w W a b v6 v9 p1 m2 → Calls Try.prog 35 #[v9, .int .i64 1] W fun e w' => e = .returned (.int .i64 hh) ∧ Aside0 (Hold w w' a b v6 v9 p1 m2)) := by
        refine ⟨fun W a b v6 v9 hH => ?_⟩
        obtain ⟨A9, c9, rfl, h9, C9⟩ := Kd.R_reads hH.r9
        refine (laws_heldNodeS.calls k A9 c9 m2 1 hh W C9 h9 hhe).mono ?_
        rintro e w' ⟨rfl, hd⟩
        exact ⟨rfl, ⟨hH.step hd.below⟩⟩
      have n1 : (t < 0) = False := eq_false htn
      have n2 : ((M : Int) < 0) = False := eq_false (by omega)
      have n3 : (hh < 0) = False := eq_false (by omega)
      clear hr1 hc1 hr0 hc0 hto0 hto hsp him he1 he0 he2 hma hhe hM hM0 hL0 hL1 hL2 hh0 h ht htn ht0 htn0
      have tok1 : True := trivial
      go_enter Try.func14, Try.ntmps14
      go_wp2_with (first
        | (go_at_call 20; (with_reducible refine HSZ0.out.mono ?_); rintro e w1 ⟨rfl, hb⟩; have B1 := Aside0.mk hb; clear hb)
        | (go_at_call 58; (with_reducible refine (HSZ.out _ B1.out).mono ?_); rintro e w2 ⟨rfl, B2⟩)
        | (go_at_call 22; have _t := tok1; (with_reducible refine (HTO0.out _ B2.out).mono ?_); rintro e w3 ⟨v3, rfl, Z3⟩; clear _t tok1; have tok2 : True := trivial)
        | (go_at_call 60; have _t := tok2; (with_reducible refine (HTO.out _ (below_step B2.out Z3.out.2)).mono ?_); rintro e w4 ⟨v4, rfl, Z4⟩; clear _t tok2)
        | (go_at_call 59; (with_reducible refine (HSP.out _ _ _ _ _ (Kd.R_below Z3.out.1 Z4.out.2) Z4.out.1).mono ?_); rintro e w5 ⟨v5, rfl, Z5⟩; have tok3 : True := trivial)
        | (go_at_call 22; have _t := tok3; (with_reducible refine (HTO0.out _ (below_step (below_step (below_step B2.out Z3.out.2) Z4.out.2) Z5.out.2)).mono ?_); rintro e w6 ⟨v6, rfl, Z6⟩; clear _t tok3; have tok4 : True := trivial)
        | (go_at_call 60; have _t := tok4; (with_reducible refine (HTO.out _ (below_step (below_step (below_step (below_step B2.out Z3.out.2) Z4.out.2) Z5.out.2) Z6.out.2)).mono ?_); rintro e w7 ⟨v7, rfl, Z7⟩; clear _t tok4; have tok5 : True := trivial)
        | (go_at_call 61; have _t := tok5; (with_reducible refine (HIM.out _ _ _ _ _ (Kd.R_below Z6.out.1 Z7.out.2) Z7.out.1).mono ?_); rintro e w8 ⟨v8, rfl, Z8⟩; have H8 := put_start B2 Z3 Z4 Z5 Z6 Z7 Z8; clear _t tok5; have tok6 : True := trivial)
        | (go_at_call 24; have _t := tok6; (with_reducible refine (HEQ.out _ _ _ _ _ H8.out.1).mono ?_); rintro e w9 ⟨rfl, Z9⟩; clear _t tok6; have tok7 : True := trivial)
        | (go_at_call 22; have _t := tok7; (with_reducible refine (HTO0.out _ Z9.out.1.below).mono ?_); rintro e w10 ⟨v10, rfl, Z10⟩; clear _t tok7; have tok8 : True := trivial)
        | (go_at_call 24; have _t := tok8; have B10 := Aside0.mk (below_step Z9.out.2 Z10.out.2); (with_reducible refine (HE0.out _ _ _ _ _ _ _ (Kd.R_below H8.out.2.1.1 B10.out) Z10.out.1).mono ?_); rintro e w11 ⟨rfl, Z11⟩; have B11 := Aside0.mk (below_step B10.out Z11.out); clear _t tok8; have tok9 : True := trivial)
        | (go_at_call 60; have _t := tok9; (with_reducible refine (HTO.out _ (below_step H8.out.1.below B11.out)).mono ?_); rintro e w12 ⟨v12, rfl, Z12⟩; have B12 := Aside0.mk (below_step B11.out Z12.out.2); clear _t tok9)
        | (go_at_call 62; (with_reducible refine (HES.out _ _ _ _ _ _ _ (Kd.S_below H8.out.2.1.2 B12.out) Z12.out.1).mono ?_); rintro e w13 ⟨rfl, Z13⟩; have B13 := Aside0.mk (below_step B12.out Z13.out); have tok10 : True := trivial)
        | (go_at_call 34; have _t := tok10; (with_reducible refine (HM0.out _ _ _ _ _ _ _ _ (H8.out.1.step B13.out) H8.out.2.2.2 (Kd.R_below H8.out.2.1.1 B13.out) (Kd.S_below H8.out.2.1.2 B13.out)).mono ?_); rintro e w14 ⟨rfl, H14⟩; clear _t tok10)
        | (go_at_call 63; (with_reducible refine (HMS.out _ _ _ _ _ _ _ H14.out.1 H8.out.2.2.1 H14.out.2).mono ?_); rintro e w15 ⟨rfl, H15⟩; have tok11 : True := trivial)
        | (go_at_call 24; have _t := tok11; (with_reducible refine (HEQ.out _ _ _ _ _ H15.out).mono ?_); rintro e w16 ⟨rfl, Z16⟩; clear _t tok11; have tok12 : True := trivial)
        | (go_at_call 34; have _t := tok12; (with_reducible refine (HMA.out _ _ _ _ _ Z16.out.1).mono ?_); rintro e w17 ⟨rfl, H17⟩; clear _t tok12; have tok13 : True := trivial)
        | (go_at_call 35; have _t := tok13; (with_reducible refine (HHE.out _ _ _ _ _ H17.out).mono ?_); rintro e w18 ⟨rfl, H18⟩; clear _t tok13; have tok14 : True := trivial)
        | (go_at_call 22; have _t := tok14; (with_reducible refine (HTO0.out _ H18.out.below).mono ?_); rintro e w19 ⟨v19, rfl, Z19⟩; clear _t tok14; have tok15 : True := trivial)
        | (go_at_call 60; have _t := tok15; (with_reducible refine (HTO.out _ (below_step H18.out.below Z19.out.2)).mono ?_); rintro e w20 ⟨v20, rfl, Z20⟩; clear _t tok15; have tok16 : True := trivial)
        | (go_at_call 61; have _t := tok16; (with_reducible refine (HIM.out _ _ _ _ _ (Kd.R_below Z19.out.1 Z20.out.2) Z20.out.1).mono ?_); rintro e w21 ⟨v21, rfl, Z21⟩; have H21 := Aside0.mk (((H18.out.step Z19.out.2).step Z20.out.2).step Z21.out.2); clear _t tok16; have tok17 : True := trivial)
        | (go_at_call 24; have _t := tok17; (with_reducible refine (HEQ2.out _ _ _ _ _ _ _ H21.out Z21.out.1).mono ?_); rintro e w22 ⟨rfl, H22⟩; clear _t tok17; have tok18 : True := trivial)
        | (go_at_call 35; have _t := tok18; (with_reducible refine (HHE.out _ _ _ _ _ H22.out).mono ?_); rintro e w23 ⟨rfl, H23⟩; clear _t tok18))
      go_ret
      exact ⟨rfl, H23.out.below⟩
    · rw [if_neg hc] at h
      exact absurd h (by simp)

end Go.Proofs.Ytlneknaiimmfmaa.PFnExactPutAll
