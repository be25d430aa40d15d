/- Functions of the program and of the reference as plain Lean functions, and what their calls come to; partly printed by a program, partly by hand; no condition beyond what each theorem says. -/
import Derived.Test.YtlneknaiimmfmaaPFnExactTermOfx0
import Derived.Test.YtlneknaiimmfmaaPFnExactTermOfx1
import Derived.Test.YtlneknaiimmfmaaPFnExactTermOfx2
import Derived.Test.YtlneknaiimmfmaaPFnExactTermOfx3
import Derived.Test.YtlneknaiimmfmaaPFnExactTermOfx5
import Derived.Test.YtlneknaiimmfmaaPFnExactTermOfx7
import Derived.Test.YtlneknaiimmfmaaPFnExactTermOfx8
namespace Go.Proofs.Ytlneknaiimmfmaa.PFnExactTermOf
open Go.RowKit Go.Proofs.YtlneknaiimmfmaaW.PrintWords Go.Proofs.YtlneknaiimmfmaaW.PrintLast Go.Proofs.YtlneknaiimmfmaaW.PrintMore
attribute [local go_sem] max2_int min2_int max_two min_two max_three min_three max_four min_four   -- for this text's walks alone
set_option linter.unusedVariables false
set_option linter.unusedSimpArgs false

/-! ### impl_TermOf: function 73 -/
mutual
def impl_TermOf.l0 : Nat → List (S101) → List (S87) → List (S101) → Int → Int → Option ((List (S87)) × Bool)
  | 0, _, _, _, _, _ => none
  | k + 1, x0, x4, x13, x14, x15 => if x15 < x14 then (if 0 ≤ x15 then (if x15 < (x13.length : Int) then (if x4.length < 8796093022208 then (impl_TermOf.l1 k x0 (x4 ++ [(⟨1, (rd_T101 x13 x15).f1⟩ : S87)]) x15 x13 x14 x15 ((rd_T101 x13 x15).f0) (((rd_T101 x13 x15).f0).length : Int) 0) else (none)) else (none)) else (none)) else (if (x0.length : Int) = 0 then (if x4.length < 8796093022208 then ((impl_goodList.f (x4 ++ [(⟨1, 0⟩ : S87)])).bind fun bt213 => (some (bt213.1, bt213.2))) else (none)) else ((impl_goodList.f x4).bind fun bt217 => (some (bt217.1, bt217.2))))
def impl_TermOf.l1 : Nat → List (S101) → List (S87) → Int → List (S101) → Int → Int → List Int → Int → Int → Option ((List (S87)) × Bool)
  | 0, _, _, _, _, _, _, _, _, _ => none
  | k + 1, x0, x4, x5, x13, x14, x15, x27, x28, x29 => if x29 < x28 then (if 0 ≤ x29 then (if x29 < (x27.length : Int) then (impl_TermOf.l2 k x0 x4 x5 x29 x13 x14 x15 x27 x28 x29 (rd x27 x29) 0) else (none)) else (none)) else (if x5 > 0 then (if x4.length < 8796093022208 then (impl_TermOf.l0 k x0 (x4 ++ [(⟨4, 0⟩ : S87)]) x13 x14 (wrap64 (x15 + 1))) else (none)) else (impl_TermOf.l0 k x0 x4 x13 x14 (wrap64 (x15 + 1))))
def impl_TermOf.l2 : Nat → List (S101) → List (S87) → Int → Int → List (S101) → Int → Int → List Int → Int → Int → Int → Int → Option ((List (S87)) × Bool)
  | 0, _, _, _, _, _, _, _, _, _, _, _, _ => none
  | k + 1, x0, x4, x5, x7, x13, x14, x15, x27, x28, x29, x34, x35 => if x35 < x34 then ((some (([(⟨2, x7⟩ : S87), (⟨6, 0⟩ : S87)] : List (S87)) : List (S87))).bind fun y230 => (if x4.length + y230.length < 8796093022208 then (impl_TermOf.l2 k x0 (x4 ++ y230) x5 x7 x13 x14 x15 x27 x28 x29 x34 (wrap64 (x35 + 1))) else (none))) else (impl_TermOf.l1 k x0 x4 x5 x13 x14 x15 x27 x28 (wrap64 (x29 + 1)))
end
def impl_TermOf.f (k : Nat) (l0 : List (S101)) : Option ((List (S87)) × Bool) := (impl_GoodPoly.f k l0).bind fun t206 => (if t206 = true then (impl_TermOf.l0 k l0 (([] : List (S87))) l0 (l0.length : Int) 0) else (some (([] : List (S87)), false)))
theorem impl_TermOf.mono_l : ∀ k, (∀ y0 y1 y2 y3 y4, LeO (impl_TermOf.l0 k y0 y1 y2 y3 y4) (impl_TermOf.l0 (k + 1) y0 y1 y2 y3 y4)) ∧ (∀ y0 y1 y2 y3 y4 y5 y6 y7 y8, LeO (impl_TermOf.l1 k y0 y1 y2 y3 y4 y5 y6 y7 y8) (impl_TermOf.l1 (k + 1) y0 y1 y2 y3 y4 y5 y6 y7 y8)) ∧ (∀ y0 y1 y2 y3 y4 y5 y6 y7 y8 y9 y10 y11, LeO (impl_TermOf.l2 k y0 y1 y2 y3 y4 y5 y6 y7 y8 y9 y10 y11) (impl_TermOf.l2 (k + 1) y0 y1 y2 y3 y4 y5 y6 y7 y8 y9 y10 y11))
  | 0 => ⟨fun _ _ _ _ _ r h => by simp [impl_TermOf.l0] at h, fun _ _ _ _ _ _ _ _ _ r h => by simp [impl_TermOf.l1] at h, fun _ _ _ _ _ _ _ _ _ _ _ _ r h => by simp [impl_TermOf.l2] at h⟩
  | k + 1 => by
    obtain ⟨ih0, ih1, ih2⟩ := impl_TermOf.mono_l k
    refine ⟨?_, ?_, ?_⟩
    · intro y0 y1 y2 y3 y4
      unfold impl_TermOf.l0
      repeat' first
      | (with_reducible exact ih0 _ _ _ _ _)
      | (with_reducible exact ih1 _ _ _ _ _ _ _ _ _)
      | (with_reducible exact ih2 _ _ _ _ _ _ _ _ _ _ _ _)
      | (with_reducible exact impl_GoodPoly.mono _ _)
      | (with_reducible exact LeO.refl _)
      | (with_reducible exact LeO.none _)
      | (with_reducible refine LeO.ite ?_ ?_)
      | (with_reducible refine LeO.bind ?_ (fun _ => ?_))
      | exact ih0 _ _ _ _ _
      | exact ih1 _ _ _ _ _ _ _ _ _
      | exact ih2 _ _ _ _ _ _ _ _ _ _ _ _
      | exact impl_GoodPoly.mono _ _
      | exact LeO.none _
      | refine LeO.ite ?_ ?_
      | refine LeO.bind ?_ (fun _ => ?_)
    · intro y0 y1 y2 y3 y4 y5 y6 y7 y8
      unfold impl_TermOf.l1
      repeat' first
      | (with_reducible exact ih0 _ _ _ _ _)
      | (with_reducible exact ih1 _ _ _ _ _ _ _ _ _)
      | (with_reducible exact ih2 _ _ _ _ _ _ _ _ _ _ _ _)
      | (with_reducible exact impl_GoodPoly.mono _ _)
      | (with_reducible exact LeO.refl _)
      | (with_reducible exact LeO.none _)
      | (with_reducible refine LeO.ite ?_ ?_)
      | (with_reducible refine LeO.bind ?_ (fun _ => ?_))
      | exact ih0 _ _ _ _ _
      | exact ih1 _ _ _ _ _ _ _ _ _
      | exact ih2 _ _ _ _ _ _ _ _ _ _ _ _
      | exact impl_GoodPoly.mono _ _
      | exact LeO.none _
      | refine LeO.ite ?_ ?_
      | refine LeO.bind ?_ (fun _ => ?_)
    · intro y0 y1 y2 y3 y4 y5 y6 y7 y8 y9 y10 y11
      unfold impl_TermOf.l2
      repeat' first
      | (with_reducible exact ih0 _ _ _ _ _)
      | (with_reducible exact ih1 _ _ _ _ _ _ _ _ _)
      | (with_reducible exact ih2 _ _ _ _ _ _ _ _ _ _ _ _)
      | (with_reducible exact impl_GoodPoly.mono _ _)
      | (with_reducible exact LeO.refl _)
      | (with_reducible exact LeO.none _)
      | (with_reducible refine LeO.ite ?_ ?_)
      | (with_reducible refine LeO.bind ?_ (fun _ => ?_))
      | exact ih0 _ _ _ _ _
      | exact ih1 _ _ _ _ _ _ _ _ _
      | exact ih2 _ _ _ _ _ _ _ _ _ _ _ _
      | exact impl_GoodPoly.mono _ _
      | exact LeO.none _
      | refine LeO.ite ?_ ?_
      | refine LeO.bind ?_ (fun _ => ?_)
theorem impl_TermOf.mono : ∀ a0 k, LeO (impl_TermOf.f k a0) (impl_TermOf.f (k + 1) a0) := by
  intro a0 k
  obtain ⟨ih0, ih1, ih2⟩ := impl_TermOf.mono_l k
  unfold impl_TermOf.f
  repeat' first
      | (with_reducible exact ih0 _ _ _ _ _)
      | (with_reducible exact ih1 _ _ _ _ _ _ _ _ _)
      | (with_reducible exact ih2 _ _ _ _ _ _ _ _ _ _ _ _)
      | (with_reducible exact impl_GoodPoly.mono _ _)
      | (with_reducible exact LeO.refl _)
      | (with_reducible exact LeO.none _)
      | (with_reducible refine LeO.ite ?_ ?_)
      | (with_reducible refine LeO.bind ?_ (fun _ => ?_))
      | exact ih0 _ _ _ _ _
      | exact ih1 _ _ _ _ _ _ _ _ _
      | exact ih2 _ _ _ _ _ _ _ _ _ _ _ _
      | exact impl_GoodPoly.mono _ _
      | exact LeO.none _
      | refine LeO.ite ?_ ?_
      | refine LeO.bind ?_ (fun _ => ?_)
set_option maxHeartbeats 8000000 in
set_option maxRecDepth 100000 in
theorem impl_TermOf.calls (k : Nat) (A0 : Option Addr) (c0 : Nat) (l0 : List (S101)) (r1 : List (S87)) (r2 : Bool) (w : World) (hr0 : Kd.C k101 w A0 l0.length l0) (hc0 : l0.length ≤ c0) (h : impl_TermOf.f k l0 = some (r1, r2)) :
    Calls Try.prog 73 #[.slice A0 l0.length c0] w fun e w' => ∃ v0_ : Value, e = .returned (.tuple #[v0_, .bool r2]) ∧ Kd.R k87 87 w' w.heap.size (fun _ => True) v0_ r1 ∧ Below w.heap.size w w' := by
  have hu101 := Try.underlying101
  have hu87 := Try.underlying87
  have HR0 := Aside0.mk hr0
  have HC0 := Aside0.mk hc0
  clear hr0 hc0
  have HB := Aside0.mk (Below.refl w.heap.size w)
  have H : ((impl_GoodPoly.f k l0).bind fun t206 => (if t206 = true then (impl_TermOf.l0 k l0 (([] : List (S87))) l0 (l0.length : Int) 0) else (some (([] : List (S87)), false)))) = some (r1, r2) := h
  clear h
  replace H := Option.bind_eq_some_iff.mp H
  obtain ⟨t206, A20, H⟩ := H
  replace H : (if t206 = true then (impl_TermOf.l0 k l0 (([] : List (S87))) l0 (l0.length : Int) 0) else (some (([] : List (S87)), false))) = some (r1, r2) := H
  have A2 := Aside0.mk A20
  clear A20
  by_cases c3 : t206 = true
  · subst c3
    have H1 : (impl_TermOf.l0 k l0 (([] : List (S87))) l0 (l0.length : Int) 0) = some (r1, r2) := by rw [if_pos rfl] at H; exact H
    clear H
    have H := H1
    clear H1
    obtain ⟨y207, hy207⟩ : ∃ y_ : List (S87), y_ = (([] : List (S87))) := ⟨_, rfl⟩
    replace H : (impl_TermOf.l0 k l0 y207 l0 (l0.length : Int) 0) = some (r1, r2) := by first | (rw [hy207]; with_reducible exact H) | (have H2_ := (Option.bind_some _ _).symm.trans H; rw [hy207]; with_reducible exact H2_) | (have H2_ := (Option.bind_some _ _).symm.trans H; with_reducible exact H2_) | with_reducible exact H | (rw [hy207]; exact H) | exact H
    have Ny207 := Aside0.mk hy207
    clear hy207
    have H' := Aside0.mk H
    clear H
    go_enter Try.func73, Try.ntmps73
    go_wp2_with (first | ((with_reducible refine gate_callee (f := 39) rfl ?_); refine goesL_ (some 10) rfl rfl Try.func39 (by kernel_rfl) rfl #[.slice A0 l0.length c0] rfl (by (try simp only [List.map_toArray, List.map_cons, List.map_nil]); first | done | rfl | (simp only [List.length_drop, List.length_take]; rfl)) ?_; (with_reducible refine (impl_GoodPoly.calls k _ _ l0 true _ ?side1 ?side2 A2.out).mono ?_); (case side1 => repeat (first | exact HR0.out | (with_reducible refine Kd.C_alloc ?_ _) | (with_reducible refine Kd.C_drewN ?_ _) | (with_reducible refine Kd.C_drew ?_))); (case side2 => exact HC0.out); rintro e w4 ⟨rfl, hb⟩; refine ⟨_, rfl, ?_⟩; have n0_ := Aside0.mk (below_step (by repeat (first | (with_reducible first | exact HB.out | apply below_alloc | apply pw_below_drewN | apply below_drew1) | exact HB.out)) hb); clear HB; have HB := n0_; clear n0_; (try clear hb); (try clear hb2); (try clear hk); (try clear hi)) | ((with_reducible refine gate_dst (N := 12) rfl ?_); refine Kd.R_lit k87 _ 87 ?hg (N := 12) ?hd (xs := ([] : List (S87))) (inner := []) (ok := fun _ => True) (okp := fun _ => True) ?hr ?hp (fun _ hk => hk) trivial (Below.refl _ _) (Nat.le_refl _) (by simp) ?_; (case hd => rfl); (case hg => rfl); (case hr => first | (go_simp; done) | (go_simp; rfl)); (case hp => exact (Reps.none _ _)); intro v208 w5 ho6 hb hg_ hnew_; clear hg_ hnew_; (first | rw [← Ny207.out] at ho6 | (simp only [Int.reduceToNat] at ho6; rw [← Ny207.out] at ho6)); have n0_ := Aside0.mk (Kd.R_lower ho6 (below_size (by repeat (first | (with_reducible first | exact HB.out | apply below_alloc | apply pw_below_drewN | apply below_drew1) | exact HB.out)))); have n1_ := Aside0.mk (below_step (by repeat (first | (with_reducible first | exact HB.out | apply below_alloc | apply pw_below_drewN | apply below_drew1) | exact HB.out)) hb); clear HB; have HO209 := n0_; have HB := n1_; clear n0_ n1_; clear hb ho6))
    go_loopg [4, 15] k (fun kq v4 v15 w' => ∃ (x4_1 : List (S87)) (x15_1 : Int), v15 = .int .i64 x15_1 ∧ Aside0 (impl_TermOf.l0 kq l0 x4_1 l0 (l0.length : Int) x15_1 = some (r1, r2)) ∧ Aside0 (kq ≤ k) ∧ Aside0 (Kd.R k87 87 w' w.heap.size (fun _ => True) v4 x4_1) ∧ Aside0 (Below w.heap.size w w'))
    case atStart => exact ⟨(y207), (0), (by first | rfl | (simp; done) | (simp [*]; done)), H', ⟨Nat.le_refl _⟩, ⟨by (with_reducible repeat (first | apply Kd.R_alloc | apply Kd.R_drewN | apply Kd.R_drew)); exact HO209.out⟩, ⟨by repeat (first | (with_reducible first | exact HB.out | apply below_alloc | apply pw_below_drewN | apply below_drew1) | exact HB.out)⟩⟩
    case round =>
      clear H'
      try clear p2
      try clear c3
      obtain ⟨x4_1, x15_1, rfl, HA, HK1, HO_4, HB⟩ := hrel
      cases gk with
      | zero => exact absurd HA.out (by simp [impl_TermOf.l0])
      | succ k1 =>
        have H := HA.out
        clear HA
        simp only [impl_TermOf.l0] at H
        by_cases c7 : x15_1 < (l0.length : Int)
        · rw [if_pos c7] at H
          have c7b0 : decide (x15_1 < (l0.length : Int)) = true := decide_eq_true c7
          clear c7
          by_cases c8 : 0 ≤ x15_1
          · rw [if_pos c8] at H
            have c8b0 : decide (0 ≤ x15_1) = true := decide_eq_true c8
            clear c8
            by_cases c9 : x15_1 < (l0.length : Int)
            · rw [if_pos c9] at H
              have c9b0 : decide (x15_1 < (l0.length : Int)) = true := decide_eq_true c9
              clear c9
              by_cases c10 : x4_1.length < 8796093022208
              · rw [if_pos c10] at H
                have LMc10 := Aside0.mk c10
                clear c10
                obtain ⟨y223, hy223⟩ : ∃ y_ : List (S87), y_ = (x4_1 ++ [(⟨1, (rd_T101 l0 x15_1).f1⟩ : S87)]) := ⟨_, rfl⟩
                replace H : (impl_TermOf.l1 k1 l0 y223 x15_1 l0 (l0.length : Int) x15_1 ((rd_T101 l0 x15_1).f0) (((rd_T101 l0 x15_1).f0).length : Int) 0) = some (r1, r2) := by first | (rw [hy223]; with_reducible exact H) | (have H2_ := (Option.bind_some _ _).symm.trans H; rw [hy223]; with_reducible exact H2_) | (have H2_ := (Option.bind_some _ _).symm.trans H; with_reducible exact H2_) | with_reducible exact H | (rw [hy223]; exact H) | exact H
                have Ny223 := Aside0.mk hy223
                clear hy223
                have H' := Aside0.mk H
                clear H
                have p221 : 0 ≤ (x15_1 : Int) := of_decide_eq_true (by first | (with_reducible assumption) | assumption)
                have q221 : x15_1 < (l0.length : Int) := of_decide_eq_true (by first | (with_reducible assumption) | assumption)
                obtain ⟨ad221, A221_0, c221_0, e221, hx221_0, hx221_1, hl221_0, hi221_0⟩ := at_T101 HR0.out x15_1 p221 q221
                cases e221
                replace hx221_0 := (HB.out.cell (World.block_lt_of_cell? w _ hx221_0)).trans hx221_0
                replace hx221_1 := (HB.out.cell (World.block_lt_of_cell? w _ hx221_1)).trans hx221_1
                have HR221_0 := Aside0.mk hi221_0
                have HC221_0 := Aside0.mk hl221_0
                clear hi221_0 hl221_0
                replace p221 := eq_true p221
                replace q221 := eq_true q221
                go_wp2_with (first | ((with_reducible refine gate_dst (N := 6) rfl ?_); refine box_event ?hg (N := 6) ?hd (cs := #[.slice none 0 0, .int .i64 0]) (t := 101) ?hr ?_; (case hd => rfl); (case hg => rfl); (case hr => first | (go_simp; done) | (go_simp; rfl)); intro gb222 hg w11 hbox hb; have n0_ := Aside0.mk (Kd.R_below (by (with_reducible repeat (first | apply Kd.R_alloc | apply Kd.R_drewN | apply Kd.R_drew)); exact HO_4.out) hb); have n1_ := Aside0.mk (below_step (by repeat (first | (with_reducible first | exact HB.out | apply below_alloc | apply pw_below_drewN | apply below_drew1) | exact HB.out)) hb); have n2_ := Aside0.mk (hbox); have n3_ := Aside0.mk ((by rw [hg]; exact (below_size (by repeat (first | (with_reducible first | exact HB.out | apply below_alloc | apply pw_below_drewN | apply below_drew1) | exact HB.out))) : w.heap.size ≤ gb222)); have n4_ := Aside0.mk ((by rw [hg]; exact (below_size (by repeat (first | (with_reducible first | exact HB.out | apply below_alloc | apply pw_below_drewN | apply below_drew1) | exact HB.out))) : w.heap.size ≤ gb222)); clear HO_4; clear HB; have HO_4 := n0_; have HB := n1_; have BK222 := n2_; have GW222 := n3_; have GE222 := n4_; clear n0_ n1_ n2_ n3_ n4_; clear hb hbox hg; have hcz12_0 : w11.cell? ⟨gb222, 0, none⟩ = some (.slice none 0 0) := (blk_cell BK222.out 0).trans rfl; have hcz12_1 : w11.cell? ⟨gb222, 1, none⟩ = some (.int .i64 0) := (blk_cell BK222.out 1).trans rfl; have hfz12_0 := blk_frozen BK222.out 0; have hfz12_1 := blk_frozen BK222.out 1) | ((with_reducible refine gate_builtin (b := .append) (xs := #[.tmp 20, .tmp 24]) rfl ?_); at_builtin; refine Kd.R_append k87 (w0 := w) w.heap.size rfl (.tmp 20) (.tmp 24) 25 87 (.agg #[(.int .i64 0), (.int .i64 0)]) 16 rfl Try.underlying25 info87 rfl (by decide) (by omega) u4 x4_1 (⟨1, (rd_T101 l0 x15_1).f1⟩ : S87) [.int .i64 1, .int .i64 ((rd_T101 l0 x15_1).f1)] (fun _ => True) (fun _ => False) rfl (by first | (go_simp; done) | (go_simp; rfl)) ?aP (fun _ hk => hk.elim) ?aF ?aO ?aB ?aS ?aL ?_; (case aP => exact k87_mkM _ _ _ (⟨1, (rd_T101 l0 x15_1).f1⟩ : S87)); (case aB => exact (by repeat (first | (with_reducible first | exact HB.out | apply below_alloc | apply pw_below_drewN | apply below_drew1 | refine below_set ?_ GE222.out) | exact HB.out))); (case aF => exact (fun _ _ => trivial)); (case aO => exact (by (with_reducible repeat (first | apply Kd.R_alloc | apply Kd.R_drewN | apply Kd.R_drew)); exact Kd.R_mono (Kd.R_far (p := ⟨gb222, 1, none⟩) (Kd.R_far (p := ⟨gb222, 0, none⟩) (Kd.R_types HO_4.out BK222.out (by decide)) (fun _ hk => hk.2) (.slice A221_0 ((rd_T101 l0 x15_1).f0).length c221_0)) (fun _ hk => hk.2) (.int .i64 ((rd_T101 l0 x15_1).f1))) (fun _ hk => trivial))); (case aS => exact (below_size (by repeat (first | (with_reducible first | exact HB.out | apply below_alloc | apply pw_below_drewN | apply below_drew1 | refine below_set ?_ GE222.out) | exact HB.out)))); (case aL => have := LMc10.out; omega); intro v224 w13 ho hb hg hat; rw [← Ny223.out] at ho; have n0_ := Aside0.mk (blk_grown (g := gb222) (o := .cells #[.slice A221_0 ((rd_T101 l0 x15_1).f0).length c221_0, .int .i64 ((rd_T101 l0 x15_1).f1)] 101 (0, 0)) (by (with_reducible repeat (first | refine blk_drewN ?_ _ | refine blk_drew ?_ | refine blk_alloc ?_ _)); refine blk_put (cs := #[.slice A221_0 ((rd_T101 l0 x15_1).f0).length c221_0, .int .i64 0]) ?_ 1 _ rfl; (with_reducible repeat (first | refine blk_drewN ?_ _ | refine blk_drew ?_ | refine blk_alloc ?_ _)); refine blk_put (cs := #[.slice none 0 0, .int .i64 0]) ?_ 0 _ rfl; (with_reducible repeat (first | refine blk_drewN ?_ _ | refine blk_drew ?_ | refine blk_alloc ?_ _)); exact BK222.out) hg (Kd.R_ne HO_4.out BK222.out (by decide))); have n1_ := Aside0.mk (hb); have n2_ := Aside0.mk (ho); clear BK222; clear HB; clear HO_4; have BK222 := n0_; have HB := n1_; have HO225 := n2_; clear n0_ n1_ n2_; clear ho hb hg hat; have hcz14_0 : w13.cell? ⟨gb222, 0, none⟩ = some (.slice A221_0 ((rd_T101 l0 x15_1).f0).length c221_0) := (blk_cell BK222.out 0).trans rfl; have hcz14_1 : w13.cell? ⟨gb222, 1, none⟩ = some (.int .i64 ((rd_T101 l0 x15_1).f1)) := (blk_cell BK222.out 1).trans rfl; have hfz14_0 := blk_frozen BK222.out 0; have hfz14_1 := blk_frozen BK222.out 1))
                go_loopg [4, 29] k1 (fun kq v4 v29 w' => ∃ (x4_2 : List (S87)) (x29_2 : Int), v29 = .int .i64 x29_2 ∧ Aside0 (impl_TermOf.l1 kq l0 x4_2 x15_1 l0 (l0.length : Int) x15_1 ((rd_T101 l0 x15_1).f0) (((rd_T101 l0 x15_1).f0).length : Int) x29_2 = some (r1, r2)) ∧ Aside0 (kq ≤ k1) ∧ Aside0 (Kd.R k87 87 w' w.heap.size (fun _ => True) v4 x4_2) ∧ Aside0 (w'.heap[gb222]? = some (.cells #[(.slice A221_0 ((rd_T101 l0 x15_1).f0).length c221_0), .int .i64 ((rd_T101 l0 x15_1).f1)] 101 (0, 0))) ∧ Aside0 (Below w.heap.size w w'))
                case atStart => exact ⟨(y223), (0), (by first | rfl | (simp; done) | (simp [*]; done)), H', ⟨Nat.le_refl _⟩, ⟨by (with_reducible repeat (first | apply Kd.R_alloc | apply Kd.R_drewN | apply Kd.R_drew)); exact HO225.out⟩, ⟨by (with_reducible repeat (first | refine blk_drewN ?_ _ | refine blk_drew ?_ | refine blk_alloc ?_ _)); exact BK222.out⟩, ⟨by repeat (first | (with_reducible first | exact HB.out | apply below_alloc | apply pw_below_drewN | apply below_drew1 | refine below_set ?_ GE222.out) | exact HB.out)⟩⟩
                case round =>
                  clear H'
                  try clear c1
                  try clear c2
                  try clear p2
                  try clear q2
                  try clear hx2
                  try clear c3
                  try clear c7
                  try clear c7b0
                  try clear c8
                  try clear c8b0
                  try clear c9
                  try clear c9b0
                  try clear c10
                  try clear hcz12_0
                  try clear hcz12_1
                  try clear hcz14_0
                  try clear hcz14_1
                  try clear hfz12_0
                  try clear hfz12_1
                  try clear hfz14_0
                  try clear hfz14_1
                  try clear hx221_0
                  try clear hx221_1
                  try clear p2
                  try clear p221
                  try clear q221
                  obtain ⟨x4_2, x29_2, rfl, HA, HK2, HO_4, BK222, HB⟩ := hrel
                  cases gk with
                  | zero => exact absurd HA.out (by simp [impl_TermOf.l1])
                  | succ k2 =>
                    have H := HA.out
                    clear HA
                    simp only [impl_TermOf.l1] at H
                    by_cases c15 : x29_2 < (((rd_T101 l0 x15_1).f0).length : Int)
                    · rw [if_pos c15] at H
                      have c15b0 : decide (x29_2 < (((rd_T101 l0 x15_1).f0).length : Int)) = true := decide_eq_true c15
                      clear c15
                      by_cases c16 : 0 ≤ x29_2
                      · rw [if_pos c16] at H
                        have c16b0 : decide (0 ≤ x29_2) = true := decide_eq_true c16
                        clear c16
                        by_cases c17 : x29_2 < (((rd_T101 l0 x15_1).f0).length : Int)
                        · rw [if_pos c17] at H
                          have c17b0 : decide (x29_2 < (((rd_T101 l0 x15_1).f0).length : Int)) = true := decide_eq_true c17
                          clear c17
                          have H' := Aside0.mk H
                          clear H
                          have p229 : 0 ≤ (x29_2 : Int) := of_decide_eq_true (by first | (with_reducible assumption) | assumption)
                          have q229 : x29_2 < (((rd_T101 l0 x15_1).f0).length : Int) := of_decide_eq_true (by first | (with_reducible assumption) | assumption)
                          obtain ⟨ad229, e229, hx229_0⟩ := Kd.at_int HR221_0.out x29_2 p229 q229
                          cases e229
                          replace hx229_0 := (HB.out.cell (World.block_lt_of_cell? w _ hx229_0)).trans hx229_0
                          replace p229 := eq_true p229
                          replace q229 := eq_true q229
                          go_wp2
                          go_loopg [4, 35] k2 (fun kq v4 v35 w' => ∃ (x4_3 : List (S87)) (x35_3 : Int), v35 = .int .i64 x35_3 ∧ Aside0 (impl_TermOf.l2 kq l0 x4_3 x15_1 x29_2 l0 (l0.length : Int) x15_1 ((rd_T101 l0 x15_1).f0) (((rd_T101 l0 x15_1).f0).length : Int) x29_2 (rd ((rd_T101 l0 x15_1).f0) x29_2) x35_3 = some (r1, r2)) ∧ Aside0 (kq ≤ k2) ∧ Aside0 (Kd.R k87 87 w' w.heap.size (fun _ => True) v4 x4_3) ∧ Aside0 (w'.heap[gb222]? = some (.cells #[(.slice (some ad229) ((rd_T101 l0 x15_1).f0).length c221_0), .int .i64 ((rd_T101 l0 x15_1).f1)] 101 (0, 0))) ∧ Aside0 (Below w.heap.size w w'))
                          case atStart => exact ⟨(x4_2), (0), (by first | rfl | (simp; done) | (simp [*]; done)), H', ⟨Nat.le_refl _⟩, ⟨by (with_reducible repeat (first | apply Kd.R_alloc | apply Kd.R_drewN | apply Kd.R_drew)); exact HO_4.out⟩, ⟨by (with_reducible repeat (first | refine blk_drewN ?_ _ | refine blk_drew ?_ | refine blk_alloc ?_ _)); exact BK222.out⟩, ⟨by repeat (first | (with_reducible first | exact HB.out | apply below_alloc | apply pw_below_drewN | apply below_drew1 | refine below_set ?_ GE222.out) | exact HB.out)⟩⟩
                          case round =>
                            clear H'
                            try clear c1
                            try clear c2
                            try clear p2
                            try clear q2
                            try clear hx2
                            try clear c3
                            try clear c7
                            try clear c7b0
                            try clear c8
                            try clear c8b0
                            try clear c9
                            try clear c9b0
                            try clear c10
                            try clear c15
                            try clear c15b0
                            try clear c16
                            try clear c16b0
                            try clear c17
                            try clear c17b0
                            try clear hcz12_0
                            try clear hcz12_1
                            try clear hcz14_0
                            try clear hcz14_1
                            try clear hfz12_0
                            try clear hfz12_1
                            try clear hfz14_0
                            try clear hfz14_1
                            try clear hx221_0
                            try clear hx221_1
                            try clear hx229_0
                            try clear p2
                            try clear p221
                            try clear p229
                            try clear q2
                            try clear q221
                            try clear q229
                            obtain ⟨x4_3, x35_3, rfl, HA, HK3, HO_4, BK222, HB⟩ := hrel
                            cases gk with
                            | zero => exact absurd HA.out (by simp [impl_TermOf.l2])
                            | succ k3 =>
                              have H := HA.out
                              clear HA
                              simp only [impl_TermOf.l2] at H
                              by_cases c18 : x35_3 < (rd ((rd_T101 l0 x15_1).f0) x29_2)
                              · rw [if_pos c18] at H
                                have c18b0 : decide (x35_3 < (rd ((rd_T101 l0 x15_1).f0) x29_2)) = true := decide_eq_true c18
                                clear c18
                                obtain ⟨y230, hy230⟩ : ∃ y_ : List (S87), y_ = (([(⟨2, x29_2⟩ : S87), (⟨6, 0⟩ : S87)] : List (S87))) := ⟨_, rfl⟩
                                replace H : (if x4_3.length + y230.length < 8796093022208 then (impl_TermOf.l2 k3 l0 (x4_3 ++ y230) x15_1 x29_2 l0 (l0.length : Int) x15_1 ((rd_T101 l0 x15_1).f0) (((rd_T101 l0 x15_1).f0).length : Int) x29_2 (rd ((rd_T101 l0 x15_1).f0) x29_2) (wrap64 (x35_3 + 1))) else (none)) = some (r1, r2) := by first | (rw [hy230]; with_reducible exact H) | (have H2_ := (Option.bind_some _ _).symm.trans H; rw [hy230]; with_reducible exact H2_) | (have H2_ := (Option.bind_some _ _).symm.trans H; with_reducible exact H2_) | with_reducible exact H | (rw [hy230]; exact H) | exact H
                                have Ny230 := Aside0.mk hy230
                                clear hy230
                                by_cases c19 : x4_3.length + y230.length < 8796093022208
                                · rw [if_pos c19] at H
                                  have LMc19 := Aside0.mk c19
                                  clear c19
                                  obtain ⟨y233, hy233⟩ : ∃ y_ : List (S87), y_ = (x4_3 ++ y230) := ⟨_, rfl⟩
                                  replace H : (impl_TermOf.l2 k3 l0 y233 x15_1 x29_2 l0 (l0.length : Int) x15_1 ((rd_T101 l0 x15_1).f0) (((rd_T101 l0 x15_1).f0).length : Int) x29_2 (rd ((rd_T101 l0 x15_1).f0) x29_2) (wrap64 (x35_3 + 1))) = some (r1, r2) := by first | (rw [hy233]; with_reducible exact H) | (have H2_ := (Option.bind_some _ _).symm.trans H; rw [hy233]; with_reducible exact H2_) | (have H2_ := (Option.bind_some _ _).symm.trans H; with_reducible exact H2_) | with_reducible exact H | (rw [hy233]; exact H) | exact H
                                  have Ny233 := Aside0.mk hy233
                                  clear hy233
                                  have H' := Aside0.mk H
                                  clear H
                                  go_wp2_with (first | ((with_reducible refine gate_dst (N := 41) rfl ?_); refine Kd.R_lit k87 _ 87 ?hg (N := 41) ?hd (xs := ([(⟨2, x29_2⟩ : S87), (⟨6, 0⟩ : S87)] : List (S87))) (inner := [.int .i64 2, .int .i64 x29_2, .int .i64 6, .int .i64 0]) (ok := fun _ => True) (okp := fun _ => True) ?hr ?hp (fun _ hk => hk) trivial (Below.refl _ _) (Nat.le_refl _) (by simp) ?_; (case hd => rfl); (case hg => rfl); (case hr => first | (go_simp; done) | (go_simp; rfl)); (case hp => exact (Reps.c2 (show Kd.M k87 _ _ _ (⟨2, x29_2⟩ : S87) [.int .i64 2, .int .i64 x29_2] from (k87_mkM _ _ _ (⟨2, x29_2⟩ : S87) )) (Reps.c2 (show Kd.M k87 _ _ _ (⟨6, 0⟩ : S87) [.int .i64 6, .int .i64 0] from (k87_mkM _ _ _ (⟨6, 0⟩ : S87) )) (Reps.none _ _)))); intro v231 w20 ho21 hb hg_ hnew_; clear hg_ hnew_; (first | rw [← Ny230.out] at ho21 | (simp only [Int.reduceToNat] at ho21; rw [← Ny230.out] at ho21)); have n0_ := Aside0.mk (Kd.R_elder' (by (with_reducible repeat (first | apply Kd.R_alloc | apply Kd.R_drewN | apply Kd.R_drew)); exact HO_4.out) (Kd.R_base ho21) hb); have n1_ := Aside0.mk (Kd.R_lower (Kd.R_new' ho21 (Kd.R_lt (by (with_reducible repeat (first | apply Kd.R_alloc | apply Kd.R_drewN | apply Kd.R_drew)); exact HO_4.out))) (below_size (by repeat (first | (with_reducible first | exact HB.out | apply below_alloc | apply pw_below_drewN | apply below_drew1 | refine below_set ?_ GE222.out) | exact HB.out)))); have n2_ := Aside0.mk (blk_below (g := gb222) (o := .cells #[.slice (some ad229) ((rd_T101 l0 x15_1).f0).length c221_0, .int .i64 ((rd_T101 l0 x15_1).f1)] 101 (0, 0)) (by (with_reducible repeat (first | refine blk_drewN ?_ _ | refine blk_drew ?_ | refine blk_alloc ?_ _)); exact BK222.out) hb); have n3_ := Aside0.mk (below_step (by repeat (first | (with_reducible first | exact HB.out | apply below_alloc | apply pw_below_drewN | apply below_drew1 | refine below_set ?_ GE222.out) | exact HB.out)) hb); clear HO_4; clear BK222; clear HB; have HO_4 := n0_; have HO232 := n1_; have BK222 := n2_; have HB := n3_; clear n0_ n1_ n2_ n3_; clear hb ho21; obtain ⟨Ao23, co23, eo23⟩ := Kd.R_slice HO232.out; subst eo23) | ((with_reducible refine gate_builtin (b := .append) (xs := #[.tmp 37, .tmp 41]) rfl ?_); at_builtin; refine Kd.R_append_rows k87 (w0 := w) w.heap.size rfl (.tmp 37) (.tmp 41) 25 87 (.agg #[(.int .i64 0), (.int .i64 0)]) 16 rfl Try.underlying25 info87 rfl (by decide) (by omega) u4 x4_3 y230 _ _ _ (fun k_ => some k_ ≠ (.slice Ao23 y230.length co23 : Value).ownBlock) (fun _ => False) rfl rfl ?aO ?aR (fun _ _ h => h) (fun _ h => h.elim) ?aF ?aB ?aS ?aL ?_; (case aR => repeat (first | exact (Kd.R_reads' HO232.out).2.2 | (with_reducible refine Kd.C_alloc ?_ _) | (with_reducible refine Kd.C_drewN ?_ _) | (with_reducible refine Kd.C_drew ?_))); (case aB => exact (by repeat (first | (with_reducible first | exact HB.out | apply below_alloc | apply pw_below_drewN | apply below_drew1 | refine below_set ?_ GE222.out) | exact HB.out))); (case aF => exact (fun k_ hk => Kd.fresh' (Kd.R_lt (by (with_reducible repeat (first | apply Kd.R_alloc | apply Kd.R_drewN | apply Kd.R_drew)); exact HO232.out)) k_ hk)); (case aO => exact (by (with_reducible repeat (first | apply Kd.R_alloc | apply Kd.R_drewN | apply Kd.R_drew)); exact Kd.R_mono HO_4.out (fun _ hk => hk.2))); (case aS => exact (below_size (by repeat (first | (with_reducible first | exact HB.out | apply below_alloc | apply pw_below_drewN | apply below_drew1 | refine below_set ?_ GE222.out) | exact HB.out)))); (case aL => have := LMc19.out; omega); intro v234 w22 ho hb hg hat; rw [← Ny233.out] at ho; have n0_ := Aside0.mk (blk_grown (g := gb222) (o := .cells #[.slice (some ad229) ((rd_T101 l0 x15_1).f0).length c221_0, .int .i64 ((rd_T101 l0 x15_1).f1)] 101 (0, 0)) (by (with_reducible repeat (first | refine blk_drewN ?_ _ | refine blk_drew ?_ | refine blk_alloc ?_ _)); exact BK222.out) hg (Kd.R_ne HO_4.out BK222.out (by decide))); have n1_ := Aside0.mk (Kd.R_after (ok := (fun _ => True)) (by (with_reducible repeat (first | apply Kd.R_alloc | apply Kd.R_drewN | apply Kd.R_drew)); exact HO232.out) hg hat); have n2_ := Aside0.mk (hb); have n3_ := Aside0.mk (ho); clear BK222; clear HO232; clear HB; clear HO_4; have BK222 := n0_; have HO232 := n1_; have HB := n2_; have HO235 := n3_; clear n0_ n1_ n2_ n3_; clear ho hb hg hat))
                                  go_roundg k3
                                  case measure => have := HK1.out; have := HK2.out; have := HK3.out; omega
                                  case rel => exact ⟨(y233), (wrap64 (x35_3 + 1)), (by first | rfl | (simp; done) | (simp [*]; done)), H', ⟨by have := HK1.out; have := HK2.out; have := HK3.out; omega⟩, ⟨by (with_reducible repeat (first | apply Kd.R_alloc | apply Kd.R_drewN | apply Kd.R_drew)); exact Kd.R_mono HO235.out (fun _ hk => trivial)⟩, ⟨by (with_reducible repeat (first | refine blk_drewN ?_ _ | refine blk_drew ?_ | refine blk_alloc ?_ _)); exact BK222.out⟩, ⟨by repeat (first | (with_reducible first | exact HB.out | apply below_alloc | apply pw_below_drewN | apply below_drew1 | refine below_set ?_ GE222.out) | exact HB.out)⟩⟩
                                · rw [if_neg c19] at H
                                  exact absurd H (by simp)
                              · rw [if_neg c18] at H
                                have c18b0 : decide (x35_3 < (rd ((rd_T101 l0 x15_1).f0) x29_2)) = false := decide_eq_false c18
                                clear c18
                                have H' := Aside0.mk H
                                clear H
                                go_wp2
                                go_roundg k3
                                case measure => have := HK1.out; have := HK2.out; have := HK3.out; omega
                                case rel => exact ⟨(x4_3), (wrap64 (x29_2 + 1)), (by first | rfl | (simp; done) | (simp [*]; done)), H', ⟨by have := HK1.out; have := HK2.out; have := HK3.out; omega⟩, ⟨by (with_reducible repeat (first | apply Kd.R_alloc | apply Kd.R_drewN | apply Kd.R_drew)); exact HO_4.out⟩, ⟨by (with_reducible repeat (first | refine blk_drewN ?_ _ | refine blk_drew ?_ | refine blk_alloc ?_ _)); exact BK222.out⟩, ⟨by repeat (first | (with_reducible first | exact HB.out | apply below_alloc | apply pw_below_drewN | apply below_drew1 | refine below_set ?_ GE222.out) | exact HB.out)⟩⟩
                        · rw [if_neg c17] at H
                          exact absurd H (by simp)
                      · rw [if_neg c16] at H
                        exact absurd H (by simp)
                    · rw [if_neg c15] at H
                      have c15b0 : decide (x29_2 < (((rd_T101 l0 x15_1).f0).length : Int)) = false := decide_eq_false c15
                      clear c15
                      by_cases c24 : x15_1 > 0
                      · rw [if_pos c24] at H
                        have c24b0 : decide (0 < x15_1) = true := decide_eq_true c24
                        clear c24
                        by_cases c25 : x4_2.length < 8796093022208
                        · rw [if_pos c25] at H
                          have LMc25 := Aside0.mk c25
                          clear c25
                          obtain ⟨y226, hy226⟩ : ∃ y_ : List (S87), y_ = (x4_2 ++ [(⟨4, 0⟩ : S87)]) := ⟨_, rfl⟩
                          replace H : (impl_TermOf.l0 k2 l0 y226 l0 (l0.length : Int) (wrap64 (x15_1 + 1))) = some (r1, r2) := by first | (rw [hy226]; with_reducible exact H) | (have H2_ := (Option.bind_some _ _).symm.trans H; rw [hy226]; with_reducible exact H2_) | (have H2_ := (Option.bind_some _ _).symm.trans H; with_reducible exact H2_) | with_reducible exact H | (rw [hy226]; exact H) | exact H
                          have Ny226 := Aside0.mk hy226
                          clear hy226
                          have H' := Aside0.mk H
                          clear H
                          go_wp2_with (first | ((with_reducible refine gate_builtin (b := .append) (xs := #[.tmp 47, .tmp 49]) rfl ?_); at_builtin; refine Kd.R_append k87 (w0 := w) w.heap.size rfl (.tmp 47) (.tmp 49) 25 87 (.agg #[(.int .i64 0), (.int .i64 0)]) 16 rfl Try.underlying25 info87 rfl (by decide) (by omega) u4 x4_2 (⟨4, 0⟩ : S87) [.int .i64 4, .int .i64 0] (fun _ => True) (fun _ => False) rfl rfl ?aP (fun _ hk => hk.elim) ?aF ?aO ?aB ?aS ?aL ?_; (case aP => exact k87_mkM _ _ _ (⟨4, 0⟩ : S87)); (case aB => exact (by repeat (first | (with_reducible first | exact HB.out | apply below_alloc | apply pw_below_drewN | apply below_drew1 | refine below_set ?_ GE222.out) | exact HB.out))); (case aF => exact (fun _ _ => trivial)); (case aO => exact (by (with_reducible repeat (first | apply Kd.R_alloc | apply Kd.R_drewN | apply Kd.R_drew)); exact HO_4.out)); (case aS => exact (below_size (by repeat (first | (with_reducible first | exact HB.out | apply below_alloc | apply pw_below_drewN | apply below_drew1 | refine below_set ?_ GE222.out) | exact HB.out)))); (case aL => have := LMc25.out; omega); intro v227 w26 ho hb hg hat; rw [← Ny226.out] at ho; have n0_ := Aside0.mk (blk_grown (g := gb222) (o := .cells #[.slice A221_0 ((rd_T101 l0 x15_1).f0).length c221_0, .int .i64 ((rd_T101 l0 x15_1).f1)] 101 (0, 0)) (by (with_reducible repeat (first | refine blk_drewN ?_ _ | refine blk_drew ?_ | refine blk_alloc ?_ _)); exact BK222.out) hg (Kd.R_ne HO_4.out BK222.out (by decide))); have n1_ := Aside0.mk (hb); have n2_ := Aside0.mk (ho); clear BK222; clear HB; clear HO_4; have BK222 := n0_; have HB := n1_; have HO228 := n2_; clear n0_ n1_ n2_; clear ho hb hg hat))
                          go_roundg k2
                          case measure => have := HK1.out; have := HK2.out; omega
                          case rel => exact ⟨(y226), (wrap64 (x15_1 + 1)), (by first | rfl | (simp; done) | (simp [*]; done)), H', ⟨by have := HK1.out; have := HK2.out; omega⟩, ⟨by (with_reducible repeat (first | apply Kd.R_alloc | apply Kd.R_drewN | apply Kd.R_drew)); exact HO228.out⟩, ⟨by repeat (first | (with_reducible first | exact HB.out | apply below_alloc | apply pw_below_drewN | apply below_drew1 | refine below_set ?_ GE222.out) | exact HB.out)⟩⟩
                        · rw [if_neg c25] at H
                          exact absurd H (by simp)
                      · rw [if_neg c24] at H
                        have c24b0 : decide (0 < x15_1) = false := decide_eq_false c24
                        clear c24
                        have H' := Aside0.mk H
                        clear H
                        go_wp2
                        go_roundg k2
                        case measure => have := HK1.out; have := HK2.out; omega
                        case rel => exact ⟨(x4_2), (wrap64 (x15_1 + 1)), (by first | rfl | (simp; done) | (simp [*]; done)), H', ⟨by have := HK1.out; have := HK2.out; omega⟩, ⟨by (with_reducible repeat (first | apply Kd.R_alloc | apply Kd.R_drewN | apply Kd.R_drew)); exact HO_4.out⟩, ⟨by repeat (first | (with_reducible first | exact HB.out | apply below_alloc | apply pw_below_drewN | apply below_drew1 | refine below_set ?_ GE222.out) | exact HB.out)⟩⟩
              · rw [if_neg c10] at H
                exact absurd H (by simp)
            · rw [if_neg c9] at H
              exact absurd H (by simp)
          · rw [if_neg c8] at H
            exact absurd H (by simp)
        · rw [if_neg c7] at H
          have c7b0 : decide (x15_1 < (l0.length : Int)) = false := decide_eq_false c7
          clear c7
          by_cases c27 : (l0.length : Int) = 0
          · rw [if_pos c27] at H
            have c27b0 : ((l0.length : Int) == 0) = true := beq_iff_eq.mpr c27
            have c27b1 : ((l0.length : Int) != 0) = false := bne_eq_false_iff_eq.mpr c27
            clear c27
            by_cases c28 : x4_1.length < 8796093022208
            · rw [if_pos c28] at H
              have LMc28 := Aside0.mk c28
              clear c28
              obtain ⟨y210, hy210⟩ : ∃ y_ : List (S87), y_ = (x4_1 ++ [(⟨1, 0⟩ : S87)]) := ⟨_, rfl⟩
              replace H : ((impl_goodList.f y210).bind fun bt213 => (some (bt213.1, bt213.2))) = some (r1, r2) := by first | (rw [hy210]; with_reducible exact H) | (have H2_ := (Option.bind_some _ _).symm.trans H; rw [hy210]; with_reducible exact H2_) | (have H2_ := (Option.bind_some _ _).symm.trans H; with_reducible exact H2_) | with_reducible exact H | (rw [hy210]; exact H) | exact H
              have Ny210 := Aside0.mk hy210
              clear hy210
              replace H := Option.bind_eq_some_iff.mp H
              obtain ⟨⟨t213, t216⟩, A290, H⟩ := H
              replace H : (some (t213, t216)) = some (r1, r2) := H
              have A29 := Aside0.mk A290
              clear A290
              simp only [Option.some.injEq, Prod.mk.injEq] at H
              obtain ⟨rfl, rfl⟩ := H
              go_wp2_with (first | ((with_reducible refine gate_builtin (b := .append) (xs := #[.tmp 55, .tmp 57]) rfl ?_); at_builtin; refine Kd.R_append k87 (w0 := w) w.heap.size rfl (.tmp 55) (.tmp 57) 25 87 (.agg #[(.int .i64 0), (.int .i64 0)]) 16 rfl Try.underlying25 info87 rfl (by decide) (by omega) u4 x4_1 (⟨1, 0⟩ : S87) [.int .i64 1, .int .i64 0] (fun _ => True) (fun _ => False) rfl rfl ?aP (fun _ hk => hk.elim) ?aF ?aO ?aB ?aS ?aL ?_; (case aP => exact k87_mkM _ _ _ (⟨1, 0⟩ : S87)); (case aB => exact (by repeat (first | (with_reducible first | exact HB.out | apply below_alloc | apply pw_below_drewN | apply below_drew1) | exact HB.out))); (case aF => exact (fun _ _ => trivial)); (case aO => exact (by (with_reducible repeat (first | apply Kd.R_alloc | apply Kd.R_drewN | apply Kd.R_drew)); exact HO_4.out)); (case aS => exact (below_size (by repeat (first | (with_reducible first | exact HB.out | apply below_alloc | apply pw_below_drewN | apply below_drew1) | exact HB.out)))); (case aL => have := LMc28.out; omega); intro v211 w30 ho hb hg hat; rw [← Ny210.out] at ho; have n0_ := Aside0.mk (hb); have n1_ := Aside0.mk (ho); clear HB; clear HO_4; have HB := n0_; have HO212 := n1_; clear n0_ n1_; clear ho hb hg hat; obtain ⟨Ao31, co31, eo31⟩ := Kd.R_slice HO212.out; subst eo31) | ((with_reducible refine gate_callee (f := 101) rfl ?_); refine goesL_ (some 60) rfl rfl Try.func101 (by kernel_rfl) rfl #[.slice Ao31 y210.length co31] rfl (by (try simp only [List.map_toArray, List.map_cons, List.map_nil]); first | done | rfl | (simp only [List.length_drop, List.length_take]; rfl)) ?_; (with_reducible refine (impl_goodList.calls (fun k_ => some k_ = (.slice Ao31 y210.length co31 : Value).ownBlock) (.slice Ao31 y210.length co31) y210 t213 t216 w _ ?side1 ?side2 A29.out).mono ?_); (case side1 => repeat (first | (with_reducible first | exact HB.out | apply below_alloc | apply pw_below_drewN | apply below_drew1) | exact HB.out)); (case side2 => exact Kd.R_tight rfl HO212.out); rintro e w32 ⟨v214, rfl, ho0, hb, hkp⟩; refine ⟨_, rfl, ?_⟩; have n0_ := Aside0.mk (Kd.R_mono (ok' := fun k_ => True) ho0 (fun k_ hk_ => trivial)); have n1_ := Aside0.mk (hb); clear HB; clear HO212; have HO215 := n0_; have HB := n1_; clear n0_ n1_; (try clear hb); (try clear hkp); (try clear ho0)))
              go_ret2
              exact ⟨_, by first | rfl | (simp [errW_none, errW_some] <;> rfl) | (simp [*, errW_none, errW_some] <;> rfl), by (with_reducible repeat (first | apply Kd.R_alloc | apply Kd.R_drewN | apply Kd.R_drew)); exact HO215.out, by repeat (first | (with_reducible first | exact HB.out | apply below_alloc | apply pw_below_drewN | apply below_drew1) | exact HB.out)⟩
            · rw [if_neg c28] at H
              exact absurd H (by simp)
          · rw [if_neg c27] at H
            have c27b0 : ((l0.length : Int) == 0) = false := beq_eq_false_iff_ne.mpr c27
            have c27b1 : ((l0.length : Int) != 0) = true := bne_iff_ne.mpr c27
            have c27b2 : ¬ (l0 = []) := fun h_ => c27 (by rw [h_]; rfl)
            replace H := Option.bind_eq_some_iff.mp H
            obtain ⟨⟨t217, t220⟩, A330, H⟩ := H
            replace H : (some (t217, t220)) = some (r1, r2) := H
            have A33 := Aside0.mk A330
            clear A330
            simp only [Option.some.injEq, Prod.mk.injEq] at H
            obtain ⟨rfl, rfl⟩ := H
            obtain ⟨Ao34, co34, eo34⟩ := Kd.R_slice HO_4.out
            subst eo34
            go_wp2_with (first | ((with_reducible refine gate_callee (f := 101) rfl ?_); refine goesL_ (some 60) rfl rfl Try.func101 (by kernel_rfl) rfl #[.slice Ao34 x4_1.length co34] rfl (by (try simp only [List.map_toArray, List.map_cons, List.map_nil]); first | done | rfl | (simp only [List.length_drop, List.length_take]; rfl)) ?_; (with_reducible refine (impl_goodList.calls (fun k_ => some k_ = (.slice Ao34 x4_1.length co34 : Value).ownBlock) (.slice Ao34 x4_1.length co34) x4_1 t217 t220 w _ ?side1 ?side2 A33.out).mono ?_); (case side1 => repeat (first | (with_reducible first | exact HB.out | apply below_alloc | apply pw_below_drewN | apply below_drew1) | exact HB.out)); (case side2 => exact Kd.R_tight rfl HO_4.out); rintro e w35 ⟨v218, rfl, ho0, hb, hkp⟩; refine ⟨_, rfl, ?_⟩; have n0_ := Aside0.mk (Kd.R_mono (ok' := fun k_ => True) ho0 (fun k_ hk_ => trivial)); have n1_ := Aside0.mk (hb); clear HB; clear HO_4; have HO219 := n0_; have HB := n1_; clear n0_ n1_; (try clear hb); (try clear hkp); (try clear ho0)))
            go_ret2
            exact ⟨_, by first | rfl | (simp [errW_none, errW_some] <;> rfl) | (simp [*, errW_none, errW_some] <;> rfl), by (with_reducible repeat (first | apply Kd.R_alloc | apply Kd.R_drewN | apply Kd.R_drew)); exact HO219.out, by repeat (first | (with_reducible first | exact HB.out | apply below_alloc | apply pw_below_drewN | apply below_drew1) | exact HB.out)⟩
  · replace c3 := Bool.eq_false_iff.mpr c3
    subst c3
    have H1 : (some (([] : List (S87)), false)) = some (r1, r2) := by rw [if_neg (show ¬ (false = true) by decide)] at H; exact H
    clear H
    have H := H1
    clear H1
    simp only [Option.some.injEq, Prod.mk.injEq] at H
    obtain ⟨rfl, rfl⟩ := H
    go_enter Try.func73, Try.ntmps73
    go_wp2_with (first | ((with_reducible refine gate_callee (f := 39) rfl ?_); refine goesL_ (some 10) rfl rfl Try.func39 (by kernel_rfl) rfl #[.slice A0 l0.length c0] rfl (by (try simp only [List.map_toArray, List.map_cons, List.map_nil]); first | done | rfl | (simp only [List.length_drop, List.length_take]; rfl)) ?_; (with_reducible refine (impl_GoodPoly.calls k _ _ l0 false _ ?side1 ?side2 A2.out).mono ?_); (case side1 => repeat (first | exact HR0.out | (with_reducible refine Kd.C_alloc ?_ _) | (with_reducible refine Kd.C_drewN ?_ _) | (with_reducible refine Kd.C_drew ?_))); (case side2 => exact HC0.out); rintro e w36 ⟨rfl, hb⟩; refine ⟨_, rfl, ?_⟩; have n0_ := Aside0.mk (below_step (by repeat (first | (with_reducible first | exact HB.out | apply below_alloc | apply pw_below_drewN | apply below_drew1) | exact HB.out)) hb); clear HB; have HB := n0_; clear n0_; (try clear hb); (try clear hb2); (try clear hk); (try clear hi)))
    go_ret2
    exact ⟨_, by first | rfl | (simp [errW_none, errW_some] <;> rfl) | (simp [*, errW_none, errW_some] <;> rfl), by first | exact Kd.R_nil _ _ _ _ _ | exact Kd.N_nil _ _ _ _ _ | exact Kd.V_nil _ _ _ _ _ | exact Kd.Q_nil _ _ _ _ _ | exact Kd.S_nil _ _ _ _ _, by repeat (first | (with_reducible first | exact HB.out | apply below_alloc | apply pw_below_drewN | apply below_drew1) | exact HB.out)⟩

/-! ### laws_markIntS: function 48 -/
def laws_markIntS.l0 : Nat → List Int → Int → Int → Option (Int × List Int)
  | 0, _, _, _ => none
  | k + 1, x0, x1, x5 => if x5 < (x0.length : Int) then (if 0 ≤ x5 then (laws_markIntS.l0 k (x0.set (x5 : Int).toNat x1) (wrap64 (x1 + 1)) (wrap64 (x5 + 1))) else (none)) else (some (x1, x0))
def laws_markIntS.f (k : Nat) (l0 : List Int) (a1 : Int) : Option (Int × List Int) := laws_markIntS.l0 k l0 a1 0
theorem laws_markIntS.mono_l : ∀ k, (∀ y0 y1 y2, LeO (laws_markIntS.l0 k y0 y1 y2) (laws_markIntS.l0 (k + 1) y0 y1 y2))
  | 0 => fun _ _ _ r h => by simp [laws_markIntS.l0] at h
  | k + 1 => by
    have ih0 := laws_markIntS.mono_l k
    · intro y0 y1 y2
      unfold laws_markIntS.l0
      repeat' first
      | (with_reducible exact ih0 _ _ _)
      | (with_reducible exact LeO.refl _)
      | (with_reducible exact LeO.none _)
      | (with_reducible refine LeO.ite ?_ ?_)
      | (with_reducible refine LeO.bind ?_ (fun _ => ?_))
      | exact ih0 _ _ _
      | exact LeO.none _
      | refine LeO.ite ?_ ?_
      | refine LeO.bind ?_ (fun _ => ?_)
theorem laws_markIntS.mono : ∀ a0 a1 k, LeO (laws_markIntS.f k a0 a1) (laws_markIntS.f (k + 1) a0 a1) := by
  intro a0 a1 k
  have ih0 := laws_markIntS.mono_l k
  unfold laws_markIntS.f
  repeat' first
      | (with_reducible exact ih0 _ _ _)
      | (with_reducible exact LeO.refl _)
      | (with_reducible exact LeO.none _)
      | (with_reducible refine LeO.ite ?_ ?_)
      | (with_reducible refine LeO.bind ?_ (fun _ => ?_))
      | exact ih0 _ _ _
      | exact LeO.none _
      | refine LeO.ite ?_ ?_
      | refine LeO.bind ?_ (fun _ => ?_)
set_option maxHeartbeats 8000000 in
set_option maxRecDepth 100000 in
theorem laws_markIntS.calls (k : Nat) (P0_ : Nat → Prop) (u9000_ : Value) (l0 : List Int) (a1 : Int) (r1 : Int) (r2 : List Int) (w0 w : World) (hB : Below w0.heap.size w0 w) (ho0 : Kd.R (Kd.int .i64) 3 w w0.heap.size P0_ u9000_ l0) (h : laws_markIntS.f k l0 a1 = some (r1, r2)) :
    Calls Try.prog 48 #[u9000_, .int .i64 a1] w fun e w' => e = .returned (.int .i64 r1) ∧ Kd.R (Kd.int .i64) 3 w' w0.heap.size (fun k_ => (P0_ k_ ∨ w.heap.size ≤ k_)) u9000_ r2 ∧ Below w0.heap.size w0 w' ∧ Kept w w' (fun k_ => P0_ k_) := by
  have HO0 := Aside0.mk (show Kd.R (Kd.int .i64) 3 w w0.heap.size (fun k_ => (P0_ k_ ∨ w.heap.size ≤ k_)) u9000_ l0 from Kd.R_mono ho0 (fun k_ hk => (.inl hk)))
  have HK := Aside0.mk (Kept.refl w (fun k_ => P0_ k_))
  have HW0 := Aside0.mk hB.size
  have HB := Aside0.mk hB
  clear hB
  have H : (laws_markIntS.l0 k l0 a1 0) = some (r1, r2) := h
  clear h
  have H' := Aside0.mk H
  clear H
  go_enter Try.func48, Try.ntmps48
  go_wp2
  go_loopg [1, 5] k (fun kq v1 v5 w' => ∃ (x0_1 : List Int) (x1_1 : Int) (x5_1 : Int), v1 = .int .i64 x1_1 ∧ v5 = .int .i64 x5_1 ∧ Aside0 (laws_markIntS.l0 kq x0_1 x1_1 x5_1 = some (r1, r2)) ∧ Aside0 (kq ≤ k) ∧ Aside0 (Kd.R (Kd.int .i64) 3 w' w0.heap.size (fun k_ => (P0_ k_ ∨ w.heap.size ≤ k_)) u9000_ x0_1) ∧ Aside0 (Kept w w' (fun k_ => P0_ k_)) ∧ Aside0 (Below w0.heap.size w0 w'))
  case atStart => exact ⟨(l0), (a1), (0), (by first | rfl | (simp; done) | (simp [*]; done)), (by first | rfl | (simp; done) | (simp [*]; done)), H', ⟨Nat.le_refl _⟩, ⟨by (with_reducible repeat (first | apply Kd.R_alloc | apply Kd.R_drewN | apply Kd.R_drew)); exact HO0.out⟩, ⟨by repeat (first | (with_reducible first | exact HK.out | apply Kept.alloc | apply Kept.drewN | apply Kept.drew) | exact HK.out)⟩, ⟨by repeat (first | (with_reducible first | exact HB.out | apply below_alloc | apply pw_below_drewN | apply below_drew1) | exact HB.out)⟩⟩
  case round =>
    clear H'
    try clear p2
    obtain ⟨x0_1, x1_1, x5_1, rfl, rfl, HA, HK1, HO_0, HK, HB⟩ := hrel
    cases gk with
    | zero => exact absurd HA.out (by simp [laws_markIntS.l0])
    | succ k1 =>
      have H := HA.out
      clear HA
      simp only [laws_markIntS.l0] at H
      by_cases c3 : x5_1 < (x0_1.length : Int)
      · rw [if_pos c3] at H
        have c3b0 : decide (x5_1 < (x0_1.length : Int)) = true := decide_eq_true c3
        clear c3
        by_cases c4 : 0 ≤ x5_1
        · rw [if_pos c4] at H
          have c4b0 : decide (0 ≤ x5_1) = true := decide_eq_true c4
          clear c4
          obtain ⟨y236, hy236⟩ : ∃ y_ : List Int, y_ = (x0_1.set (x5_1 : Int).toNat x1_1) := ⟨_, rfl⟩
          replace H : (laws_markIntS.l0 k1 y236 (wrap64 (x1_1 + 1)) (wrap64 (x5_1 + 1))) = some (r1, r2) := by first | (rw [hy236]; with_reducible exact H) | (have H2_ := (Option.bind_some _ _).symm.trans H; rw [hy236]; with_reducible exact H2_) | (have H2_ := (Option.bind_some _ _).symm.trans H; with_reducible exact H2_) | with_reducible exact H | (rw [hy236]; exact H) | exact H
          have Ny236 := Aside0.mk hy236
          clear hy236
          have H' := Aside0.mk H
          clear H
          obtain ⟨Ao6, co6, eo6⟩ := Kd.R_slice HO_0.out
          subst eo6
          have p5 : 0 ≤ (x5_1 : Int) := of_decide_eq_true (by first | (with_reducible assumption) | assumption)
          have q5 : (x5_1 : Int) < ((x0_1.length : Int) : Int) := of_decide_eq_true (by first | (with_reducible assumption) | assumption)
          obtain ⟨go5, co5, eo5, gb5, gl5, cl5, HG5⟩ := Kd.R_form HO_0.out (by omega)
          (first | cases eo5 | (injection eo5 with ea_ en_ ec_; (first | subst ea_ | (injection ea_ with ea_; subst ea_)); subst ec_; clear en_))
          have GB5 := Aside0.mk gb5
          have GG5 := Aside0.mk HG5
          clear gb5 gl5 HG5
          have HMgo5 := Aside0.mk (show (P0_ go5 ∨ w.heap.size ≤ go5) from (HO_0.out.1 _ rfl))
          obtain ⟨hx5_0, hf5_0⟩ := Kd.R_celln 0 HO_0.out (x5_1 : Int) p5 q5
          replace p5 := eq_true p5
          replace q5 := eq_true q5
          have HP7 := Kd.R_putg HO_0.out (x5_1 : Int) x1_1
          go_wp2_with (first | ((with_reducible refine gate_store (t := 3) (p := 15) rfl ?_); refine store_event (t := 3) (p := 15) (v := ?vo_w8) (w1 := (wr.setCell ⟨go5, (x5_1 : Int).toNat, none⟩ (.int .i64 x1_1))) ?hg ?ho ?hn ?hr ?_; (case ho => rfl); (case hg => rfl); (case hn => rfl); (case hr => first | (go_simp; done) | (go_simp; rfl)); intro w8 hw; have hg : wr.grownBy w8 (some go5) := (by rw [hw]; exact HP7.2); have hp_ : Kd.R (Kd.int .i64) 3 w8 w0.heap.size (fun k_ => (P0_ k_ ∨ w.heap.size ≤ k_)) (.slice (some ⟨go5, 0, none⟩) x0_1.length co6) y236 := (by rw [hw, Ny236.out]; exact HP7.1); clear HP7; have n0_ := Aside0.mk (hp_); have n1_ := Aside0.mk ((by rw [hw]; exact below_set (HB.out) GB5.out : Below w0.heap.size w0 w8)); have n2_ := Aside0.mk (Kept.of_grown (S := (fun k_ => P0_ k_)) hg (by repeat (first | (with_reducible first | exact HK.out | apply Kept.alloc | apply Kept.drewN | apply Kept.drew) | exact HK.out)) (fun k_ e_ => (HO_0.out.1 k_ e_))); clear HO_0; clear HB; clear HK; have HO_0 := n0_; have HB := n1_; have HK := n2_; clear n0_ n1_ n2_; clear hg hw hp_))
          go_roundg k1
          case measure => have := HK1.out; omega
          case rel => exact ⟨(y236), (wrap64 (x1_1 + 1)), (wrap64 (x5_1 + 1)), (by first | rfl | (simp; done) | (simp [*]; done)), (by first | rfl | (simp; done) | (simp [*]; done)), H', ⟨by have := HK1.out; omega⟩, ⟨by (with_reducible repeat (first | apply Kd.R_alloc | apply Kd.R_drewN | apply Kd.R_drew)); exact HO_0.out⟩, ⟨by repeat (first | (with_reducible first | exact HK.out | apply Kept.alloc | apply Kept.drewN | apply Kept.drew) | exact HK.out)⟩, ⟨by repeat (first | (with_reducible first | exact HB.out | apply below_alloc | apply pw_below_drewN | apply below_drew1) | exact HB.out)⟩⟩
        · rw [if_neg c4] at H
          exact absurd H (by simp)
      · rw [if_neg c3] at H
        have c3b0 : decide (x5_1 < (x0_1.length : Int)) = false := decide_eq_false c3
        clear c3
        simp only [Option.some.injEq, Prod.mk.injEq] at H
        obtain ⟨rfl, rfl⟩ := H
        obtain ⟨Ao9, co9, eo9⟩ := Kd.R_slice HO_0.out
        subst eo9
        go_wp2
        go_ret
        exact ⟨by first | rfl | (simp [errW_none, errW_some] <;> rfl) | (simp [*, errW_none, errW_some] <;> rfl), by (with_reducible repeat (first | apply Kd.R_alloc | apply Kd.R_drewN | apply Kd.R_drew)); exact HO_0.out, by repeat (first | (with_reducible first | exact HB.out | apply below_alloc | apply pw_below_drewN | apply below_drew1) | exact HB.out), by repeat (first | (with_reducible first | exact HK.out | apply Kept.alloc | apply Kept.drewN | apply Kept.drew) | exact HK.out)⟩

/-! ### laws.markMonoS: function 74, by hand -/
theorem markI_run (n : Nat) (hn : n ≤ 140737480000000) (m0 : Nat) (hm0 : m0 ≤ 300000000) (d : Nat) : ∀ (k i : Nat) (x : List Int), i + d = n → x.length = n → d < k → ∃ y, laws_markIntS.l0 k x ((m0 + i : Nat) : Int) (i : Int) = some (((m0 + n : Nat) : Int), y) := by
  induction d with
  | zero =>
    intro k i x hi hl hk
    obtain ⟨k, rfl⟩ : ∃ m, k = m + 1 := ⟨k - 1, by omega⟩
    simp only [laws_markIntS.l0]
    rw [if_neg (by omega), show i = n by omega]
    exact ⟨_, rfl⟩
  | succ d ih =>
    intro k i x hi hl hk
    obtain ⟨k, rfl⟩ : ∃ m, k = m + 1 := ⟨k - 1, by omega⟩
    simp only [laws_markIntS.l0]
    have e1 : wrap64 (((m0 + i : Nat) : Int) + 1) = ((m0 + (i + 1) : Nat) : Int) := by unfold wrap64; omega
    have e3 : wrap64 ((i : Int) + 1) = ((i + 1 : Nat) : Int) := by unfold wrap64; omega
    rw [if_pos (by omega), if_pos (by omega), e1, e3]
    exact ih k (i + 1) _ (by omega) (by simpa using hl) (by omega)
theorem markI_f (x : List Int) (hn : x.length ≤ 140737480000000) (m0 : Nat) (hm0 : m0 ≤ 300000000) : ∃ y, laws_markIntS.f (x.length + 1) x (m0 : Int) = some (((m0 + x.length : Nat) : Int), y) :=
  markI_run x.length hn m0 hm0 x.length (x.length + 1) 0 x (by omega) rfl (by omega)
/-- How many numbers a list of products bears. -/
def monoW (l : List S101) : Nat := (l.map fun x => x.f0.length + 1).sum
theorem monoW_take_succ (l : List S101) (i : Nat) (h : i < l.length) : monoW (l.take (i + 1)) = monoW (l.take i) + ((l.getD i z101).f0.length + 1) := by
  unfold monoW
  rw [List.take_succ_eq_append_getElem h, List.map_append, List.sum_append, List.getD_eq_getElem?_getD, List.getElem?_eq_getElem h]
  simp
theorem monoW_take_le (l : List S101) (i : Nat) : monoW (l.take i) ≤ monoW l := by
  unfold monoW
  conv => rhs; rw [← List.take_append_drop i l, List.map_append, List.sum_append]
  omega
set_option maxHeartbeats 8000000 in
set_option maxRecDepth 100000 in
theorem markMonoS_told (P0_ : Nat → Prop) (u : Value) (l0 : List S101) (m0 : Nat) (w0 w : World) (hB : Below w0.heap.size w0 w) (ho0 : Kd.S k101 101 w w0.heap.size P0_ u l0) (hl : l0.length ≤ 100000000) (hm : m0 + monoW l0 ≤ 300000000) :
    Calls Try.prog 74 #[u, .int .i64 (m0 : Int)] w fun e w' => e = .returned (.int .i64 ((m0 + monoW l0 : Nat) : Int)) ∧ Below w0.heap.size w0 w' ∧ Kept w w' P0_ := by
  have HO := Aside0.mk (Kd.S_mono (ok' := fun k => P0_ k ∨ w.heap.size ≤ k) ho0 (fun k hk => .inl hk))
  obtain ⟨A, c, rfl⟩ := Kd.S_slice ho0
  obtain ⟨L, hL⟩ : ∃ L : Nat → Nat, ∀ i, L i = m0 + monoW (l0.take i) := ⟨_, fun _ => rfl⟩
  obtain ⟨M, hM⟩ : ∃ M : Nat, M = m0 + monoW l0 := ⟨_, rfl⟩
  have HL0 : Aside0 (L 0 = m0) := ⟨by rw [hL]; rfl⟩
  have HLS : Aside0 (∀ i, i < l0.length → L (i + 1) = L i + (l0.getD i z101).f0.length + 1 ∧ L (i + 1) ≤ M) := ⟨fun i hi => by have h1 := monoW_take_le l0 (i + 1); have h2 := monoW_take_succ l0 i hi; rw [hL, hL, hM]; omega⟩
  have HLN : Aside0 (L l0.length = M) := ⟨by rw [hL, List.take_length, hM]⟩
  have HM : Aside0 (M ≤ 300000000) := ⟨by rw [hM]; exact hm⟩
  have HLE : Aside0 (∀ i, i ≤ l0.length → L i ≤ M) := ⟨fun i hi => by rw [hL, hM]; have := monoW_take_le l0 i; omega⟩
  have HL := Aside0.mk hl
  have HB := Aside0.mk hB
  rw [← hM]
  have hm0 : (m0 : Int) = (L 0 : Int) := by rw [HL0.out]
  rw [hm0]
  clear ho0 hL hM hl hm hB hm0
  go_enter Try.func74, Try.ntmps74
  go_wp2
  go_loopg [1, 5] l0.length (fun gg v1 v5 wr => ∃ i : Nat, v5 = .int .i64 (i : Int) ∧ v1 = .int .i64 (L i : Int) ∧ Aside0 (i ≤ l0.length ∧ l0.length - i ≤ gg) ∧ Aside0 (∃ ys : List S101, ys.length = l0.length ∧ (∀ j, i ≤ j → ys.getD j z101 = l0.getD j z101) ∧ Kd.S k101 101 wr w0.heap.size (fun k => P0_ k ∨ w.heap.size ≤ k) (.slice A l0.length c) ys) ∧ Aside0 (Below w0.heap.size w0 wr) ∧ Aside0 (Kept w wr P0_))
  case atStart => exact ⟨0, rfl, rfl, ⟨Nat.zero_le _, Nat.le_refl _⟩, ⟨l0, rfl, fun j _ => rfl, HO.out⟩, HB, ⟨Kept.refl w P0_⟩⟩
  case round =>
    obtain ⟨i, rfl, rfl, A1, Y1, B1, K1⟩ := hrel
    by_cases c2 : i < l0.length
    · obtain ⟨ys, hyl, hyj, hS⟩ := Y1.out
      obtain ⟨g, cap, eA, hgb, -, -⟩ := Kd.S_form hS (by omega)
      rw [hyl] at eA
      injection eA with eA _ eC
      subst eA eC
      have hgP : P0_ g ∨ w.heap.size ≤ g := (Kd.S_R hS).1 g rfl
      obtain ⟨oki, cs, hcl, hM, hcc, hfr, hoki, hH⟩ := Kd.S_elem hS z101 (i : Int) (by omega) (by omega)
      obtain ⟨v, rfl, hR⟩ := k101_openM hM
      rw [Int.toNat_natCast] at hR hcc
      have hx := hcc 0 v rfl
      simp only [show (k101).sz = 2 from rfl, Nat.add_zero] at hx
      have hls := HLS.out i c2
      have hle := HLE.out i (by omega)
      have hMb := HM.out
      have hlen : (ys.getD i z101).f0.length = (l0.getD i z101).f0.length := by rw [hyj i (Nat.le_refl _)]
      obtain ⟨y, hy⟩ := markI_f (ys.getD i z101).f0 (by omega) (L i) (by omega)
      have hcall := laws_markIntS.calls _ oki v (ys.getD i z101).f0 (L i : Int) _ y w0 wr B1.out hR hy
      obtain ⟨n1, hn1⟩ : ∃ n1 : Nat, n1 = L i + (ys.getD i z101).f0.length := ⟨_, rfl⟩
      rw [← hn1] at hcall
      have HN1 : Aside0 (wrap64 ((n1 : Int) + 1) = (L (i + 1) : Int)) := ⟨by rw [hn1, hlen]; unfold wrap64; omega⟩
      have HCALL : Aside0 (Calls Try.prog 48 #[v, .int .i64 (L i : Int)] wr fun e w' => e = .returned (.int .i64 (n1 : Int)) ∧ (∃ n2, w'.cell? ⟨g, i * 2 + 1, none⟩ = some (.int .i64 n2)) ∧ w'.frozen? ⟨g, i * 2 + 1, none⟩ = false ∧ Aside0 (∀ x : Int, ∃ ys : List S101, ys.length = l0.length ∧ (∀ j, i + 1 ≤ j → ys.getD j z101 = l0.getD j z101) ∧ Kd.S k101 101 (w'.setCell ⟨g, i * 2 + 1, none⟩ (.int .i64 x)) w0.heap.size (fun k => P0_ k ∨ w.heap.size ≤ k) (.slice (some ⟨g, 0, none⟩) l0.length c) ys) ∧ Aside0 (Below w0.heap.size w0 w') ∧ Aside0 (Kept w w' P0_)) := by
        refine ⟨hcall.mono ?_⟩
        rintro e w' ⟨rfl, h1, h2, h3⟩
        have hsz := K1.out.1
        have hH1 := Kd.H_kept (Kd.H_widen hH) h3 (fun k _ hn hk => hn (.inl hk))
        have hS1 := Kd.H_back hH1 (x' := (⟨y, (ys.getD (i : Int).toNat z101).f1⟩ : S101)) (okp := fun k => oki k ∨ wr.heap.size ≤ k) (k101_mkM _ _ _ (⟨y, (ys.getD (i : Int).toNat z101).f1⟩ : S101) h1) (fun k hk => hk.imp id (fun h => ⟨.inr (by omega), h⟩))
        obtain ⟨oki2, cs2, hcl2, hM2, hcc2, hfr2, hoki2, hH2⟩ := Kd.S_elem hS1 z101 (i : Int) (by omega) (by omega)
        obtain ⟨v2, rfl, hR2⟩ := k101_openM hM2
        have hx2 := hcc2 1 _ rfl
        have hf2 := hfr2 1
        rw [Int.toNat_natCast] at hx2 hf2
        refine ⟨rfl, ⟨_, hx2⟩, hf2, ⟨fun x => ?_⟩, ⟨h2⟩, ⟨Kept.then_ K1.out h3 (fun k hk => (hoki k hk).1)⟩⟩
        have hP := Kd.S_seg0 hH2 (by omega) (by omega) (seg := [.int .i64 x]) (j := 1) (show 2 ≤ 2 from Nat.le_refl _) (x' := (⟨_, x⟩ : S101)) (k101_mkM _ _ _ (⟨_, x⟩ : S101) hR2) (fun _ hk => hk)
        rw [Int.toNat_natCast] at hP
        refine ⟨_, ?_, ?_, hP.1⟩
        · rw [List.length_set, List.length_set]; exact hyl
        · intro j hj
          rw [List.getD_eq_getElem?_getD, List.getElem?_set_ne (by omega), List.getElem?_set_ne (by omega), ← List.getD_eq_getElem?_getD]
          exact hyj j (by omega)
      have HGB : Aside0 (w0.heap.size ≤ g ∧ (P0_ g ∨ w.heap.size ≤ g)) := ⟨hgb, hgP⟩
      have c2t : ((i : Int) < (l0.length : Int)) = True := eq_true (by omega)
      have C2 := Aside0.mk c2
      obtain ⟨Av, cv, rfl, -, -⟩ := Kd.R_reads hR
      generalize (ys.getD i z101).f0 = x at hx HCALL
      clear c2 hyl hyj hS hcl hcc hfr hoki hH hR hls hle hMb hy hcall Y1 HO hlen hn1 hM hgb hgP
      go_wp2_with (go_at_call 48; (with_reducible refine HCALL.out.mono ?_); rintro e w' ⟨rfl, ⟨n2, hx1⟩, hf1, Y2, B2, K2⟩)
      go_roundg (l0.length - (i + 1))
      case measure => have := A1.out; have := C2.out; omega
      case rel =>
        refine ⟨i + 1, ?_, ?_, ⟨C2.out, Nat.le_refl _⟩, ⟨Y2.out _⟩, ⟨below_set B2.out HGB.out.1⟩, ⟨Kept.setCell K2.out HGB.out.2 _⟩⟩
        · congr 1; have := HL.out; have := C2.out; unfold wrap64; omega
        · congr 1; exact HN1.out
    · have hi : i = l0.length := by have := A1.out; omega
      have c2t : ((i : Int) < (l0.length : Int)) = False := eq_false (by omega)
      have e : L i = M := by rw [hi]; exact HLN.out
      rw [e]
      clear c2 hi e HO
      go_wp2
      go_ret
      exact ⟨rfl, B1.out, K1.out⟩

/-! ### laws.FnExactTermOf: function 19, by hand -/
/-- What a law holds while it goes on: the reference's list and the program's, apart from the argument's copy (blocks a to b). -/
structure Hold (w W : World) (a b : Nat) (v6 v9 : Value) (p q : List S87) : Prop where
  below : Below w.heap.size w W
  r6 : Kd.R k87 87 W w.heap.size (fun k => k < a) v6 p
  r9 : Kd.R k87 87 W w.heap.size (fun k => b ≤ k) v9 q
  lo : w.heap.size ≤ a
  ab : a ≤ b
  hi : b ≤ W.heap.size
theorem Hold.step {w W W' : World} {a b : Nat} {v6 v9 : Value} {p q : List S87} (h : Hold w W a b v6 v9 p q) (hb : Below W.heap.size W W') : Hold w W' a b v6 v9 p q :=
  ⟨below_step h.below hb, Kd.R_below h.r6 hb, Kd.R_below h.r9 hb, h.lo, h.ab, Nat.le_trans h.hi hb.size⟩
theorem Hold.drew {w W : World} {a b : Nat} {v6 v9 : Value} {p q : List S87} (h : Hold w W a b v6 v9 p q) (n : Nat) : Hold w (W.drewN n) a b v6 v9 p q := h.step (pw_below_drewN (Below.refl _ _) n)
theorem Hold.kept {w W W' : World} {a b : Nat} {v6 v9 : Value} {p q : List S87} (h : Hold w W a b v6 v9 p q) (hk : Kept W W' (fun k => a ≤ k ∧ k < b)) (hb : Below w.heap.size w W') : Hold w W' a b v6 v9 p q :=
  ⟨hb, Kd.R_kept h.r6 hk (fun k hk h2 => by have := h2.1; omega), Kd.R_kept h.r9 hk (fun k hk h2 => by have := h2.2; omega), h.lo, h.ab, Nat.le_trans h.hi hk.1⟩
theorem Hold.mark {w W W' : World} {a b : Nat} {v6 v9 : Value} {p q q' : List S87} (h : Hold w W a b v6 v9 p q) (hk : Kept W W' (fun k => b ≤ k)) (hr : Kd.R k87 87 W' w.heap.size (fun k => b ≤ k ∨ W.heap.size ≤ k) v9 q') (hb : Below w.heap.size w W') : Hold w W' a b v6 v9 p q' :=
  ⟨hb, Kd.R_kept h.r6 hk (fun k hk h2 => by have := h.ab; omega), Kd.R_mono hr (fun k hk => hk.elim id (fun h2 => Nat.le_trans h.hi h2)), h.lo, h.ab, Nat.le_trans h.hi hk.1⟩
theorem hold_start {w w1 w2 w3 w4 w5 : World} {v2 v3 v4 v5 : Value} {p1 q1 : List S87} {L : List S101} (B1 : Aside0 (Below w.heap.size w w1)) (Z2 : Aside0 (Kd.S k101 101 w2 w1.heap.size (fun _ => True) v2 L ∧ Below w1.heap.size w1 w2))
    (Z3 : Aside0 (Kd.R k87 87 w3 w2.heap.size (fun _ => True) v3 p1 ∧ Below w2.heap.size w2 w3)) (Z4 : Aside0 (Kd.S k101 101 w4 w3.heap.size (fun _ => True) v4 L ∧ Below w3.heap.size w3 w4)) (Z5 : Aside0 (Kd.R k87 87 w5 w4.heap.size (fun _ => True) v5 q1 ∧ Below w4.heap.size w4 w5)) :
    Aside0 (Hold w w5 w3.heap.size w4.heap.size v3 v5 p1 q1) := by
  have b2 := below_step B1.out Z2.out.2
  have b3 := below_step b2 Z3.out.2
  have b4 := below_step b3 Z4.out.2
  refine ⟨below_step b4 Z5.out.2, ?_, ?_, b3.size, Z4.out.2.size, Z5.out.2.size⟩
  · exact Kd.R_below (Kd.R_below (Kd.R_lower (Kd.R_mono (ok' := fun k => k < w3.heap.size) (Kd.R_bound Z3.out.1) (fun k hk => hk.2.2.1)) b2.size) Z4.out.2) Z5.out.2
  · exact Kd.R_lower (Kd.R_mono (ok' := fun k => w4.heap.size ≤ k) (Kd.R_bound Z5.out.1) (fun k hk => hk.2.1)) b4.size
def laws_FnExactTermOf.f (k : Nat) (l1 : List S100) : Option Bool :=
  (laws_szMonoS.f k l1 1048576).bind fun t => if t < 0 then some true else
    (laws_toMonoS.f k l1).bind fun L => (spec_TermOf.f k L).bind fun p => (impl_TermOf.f k L).bind fun q =>
      (laws_eqNodeS.f k q.1 p.1).bind fun e1 => (laws_eqMonoS.f k L L).bind fun e2 => (laws_markNodeS.f k q.1 1).bind fun m => (laws_heldNodeS.f k m.2 1).bind fun h =>
        if (e1 = true ∧ e2 = true ∧ q.2 = p.2) ∧ L.length ≤ 100000000 ∧ monoW L ≤ 100000000 ∧ 0 ≤ h ∧ h = m.1 then some true else none
set_option maxHeartbeats 8000000 in
set_option maxRecDepth 100000 in
theorem laws_FnExactTermOf.calls (k : Nat) (A1 : Option Addr) (c1 : Nat) (l1 : List S100) (r : Bool) (w : World) (hr1 : Kd.C k100 w A1 l1.length l1) (hc1 : l1.length ≤ c1) (h : laws_FnExactTermOf.f k l1 = some r) :
    Calls Try.prog 19 #[.slice A1 l1.length c1] w fun e w' => e = .returned (.bool r) ∧ Below w.heap.size w w' := by
  unfold laws_FnExactTermOf.f at h
  obtain ⟨t, ht, h⟩ := Option.bind_eq_some_iff.1 h
  have HSZ : Aside0 (Calls Try.prog 36 #[.slice A1 l1.length c1, .int .i64 1048576] w fun e w' => e = .returned (.int .i64 t) ∧ Below w.heap.size w w') := ⟨(laws_szMonoS.calls k A1 c1 l1 1048576 t w hr1 hc1 ht).mono fun e w' ⟨h, k⟩ => ⟨h, k⟩⟩
  by_cases htn : t < 0
  · rw [if_pos htn] at h
    obtain rfl := Option.some.inj h
    clear h ht hr1 hc1
    go_enter Try.func19, Try.ntmps19
    go_wp2_with (go_at_call 36; (with_reducible refine HSZ.out.mono ?_); rintro e w1 ⟨rfl, hb⟩; have HB := Aside0.mk hb; clear hb)
    go_ret
    exact ⟨rfl, HB.out⟩
  · rw [if_neg htn] at h
    obtain ⟨L, hto, h⟩ := Option.bind_eq_some_iff.1 h
    obtain ⟨p, hsp, h⟩ := Option.bind_eq_some_iff.1 h
    obtain ⟨q, him, h⟩ := Option.bind_eq_some_iff.1 h
    obtain ⟨e1, he1, h⟩ := Option.bind_eq_some_iff.1 h
    obtain ⟨e2, he2, h⟩ := Option.bind_eq_some_iff.1 h
    obtain ⟨m, hma, h⟩ := Option.bind_eq_some_iff.1 h
    obtain ⟨hh, hhe, h⟩ := Option.bind_eq_some_iff.1 h
    by_cases hc : (e1 = true ∧ e2 = true ∧ q.2 = p.2) ∧ L.length ≤ 100000000 ∧ monoW L ≤ 100000000 ∧ 0 ≤ hh ∧ hh = m.1
    · rw [if_pos hc] at h
      obtain rfl := Option.some.inj h
      obtain ⟨⟨rfl, rfl, hqp⟩, hL1, hL2, hh0, hhm⟩ := hc
      obtain ⟨p1, pb⟩ := p
      obtain ⟨q1, qb⟩ := q
      obtain ⟨m1, m2⟩ := m
      simp only at hqp hhm he1 hma hhe
      subst hqp hhm
      obtain ⟨M, hM⟩ : ∃ M : Nat, M = 1 + monoW L := ⟨_, rfl⟩
      have HTO : Aside0 (∀ W, Below w.heap.size w W → Calls Try.prog 38 #[.slice A1 l1.length c1] W fun e w' => ∃ A c, e = .returned (.slice A L.length c) ∧ Aside0 (Kd.S k101 101 w' W.heap.size (fun _ => True) (.slice A L.length c) L ∧ Below W.heap.size W w')) := by
        refine ⟨fun W hW => (laws_toMonoS.calls k A1 c1 l1 L W (Kd.C_below hr1 hW) hc1 hto).mono ?_⟩
        rintro e w' ⟨v, rfl, hS, hb⟩
        obtain ⟨A, c, rfl, -, -⟩ := Kd.S_reads hS
        exact ⟨A, c, rfl, ⟨hS, hb⟩⟩
      have HSP : Aside0 (∀ W W0 A c, Kd.S k101 101 W W0 (fun _ => True) (.slice A L.length c) L → Calls Try.prog 72 #[.slice A L.length c] W fun e w' => ∃ v6, e = .returned (.tuple #[v6, .bool qb]) ∧ Aside0 (Kd.R k87 87 w' W.heap.size (fun _ => True) v6 p1 ∧ Below W.heap.size W w')) := by
        refine ⟨fun W W0 A c hS => ?_⟩
        obtain ⟨_, hlc, hC⟩ := Kd.S_reads' hS
        exact (spec_TermOf.calls k A c L p1 qb W hC hlc hsp).mono fun e w' ⟨v, h1, h2, h3⟩ => ⟨v, h1, ⟨h2, h3⟩⟩
      have HIM : Aside0 (∀ W W0 A c, Kd.S k101 101 W W0 (fun _ => True) (.slice A L.length c) L → Calls Try.prog 73 #[.slice A L.length c] W fun e w' => ∃ v6, e = .returned (.tuple #[v6, .bool qb]) ∧ Aside0 (Kd.R k87 87 w' W.heap.size (fun _ => True) v6 q1 ∧ Below W.heap.size W w')) := by
        refine ⟨fun W W0 A c hS => ?_⟩
        obtain ⟨_, hlc, hC⟩ := Kd.S_reads' hS
        exact (impl_TermOf.calls k A c L q1 qb W hC hlc him).mono fun e w' ⟨v, h1, h2, h3⟩ => ⟨v, h1, ⟨h2, h3⟩⟩
      have HEQ : Aside0 (∀ W a b v6 v9, Hold w W a b v6 v9 p1 q1 → Calls Try.prog 24 #[v9, v6] W fun e w' => e = .returned (.bool true) ∧ Aside0 (Hold w w' a b v6 v9 p1 q1 ∧ Below W.heap.size W w')) := by
        refine ⟨fun W a b v6 v9 hH => ?_⟩
        obtain ⟨A6, c6, rfl, h6, C6⟩ := Kd.R_reads hH.r6
        obtain ⟨A9, c9, rfl, h9, C9⟩ := Kd.R_reads hH.r9
        refine (laws_eqNodeS.calls k A9 c9 q1 A6 c6 p1 true W C9 h9 C6 h6 he1).mono ?_
        rintro e w' ⟨rfl, hd⟩
        exact ⟨rfl, ⟨hH.step hd, hd⟩⟩
      have HEQ2 : Aside0 (∀ W a b v6 v9 v14 b0, Hold w W a b v6 v9 p1 m2 → Kd.R k87 87 W b0 (fun _ => True) v14 q1 → Calls Try.prog 24 #[v14, v6] W fun e w' => e = .returned (.bool true) ∧ Aside0 (Hold w w' a b v6 v9 p1 m2)) := by
        refine ⟨fun W a b v6 v9 v14 b0 hH hR => ?_⟩
        obtain ⟨A6, c6, rfl, h6, C6⟩ := Kd.R_reads hH.r6
        obtain ⟨A9, c9, rfl, h9, C9⟩ := Kd.R_reads hR
        refine (laws_eqNodeS.calls k A9 c9 q1 A6 c6 p1 true W C9 h9 C6 h6 he1).mono ?_
        rintro e w' ⟨rfl, hd⟩
        exact ⟨rfl, ⟨hH.step hd⟩⟩
      have HES : Aside0 (∀ W W0 W1 A c A' c', Kd.S k101 101 W W0 (fun _ => True) (.slice A L.length c) L → Kd.S k101 101 W W1 (fun _ => True) (.slice A' L.length c') L → Calls Try.prog 40 #[.slice A L.length c, .slice A' L.length c'] W fun e w' => e = .returned (.bool true) ∧ Aside0 (Below W.heap.size W w')) := by
        refine ⟨fun W W0 W1 A c A' c' hS hS' => ?_⟩
        obtain ⟨_, h1, C1⟩ := Kd.S_reads' hS
        obtain ⟨_, h2, C2⟩ := Kd.S_reads' hS'
        exact (laws_eqMonoS.calls k A c L A' c' L true W C1 h1 C2 h2 he2).mono fun e w' ⟨h, k⟩ => ⟨h, ⟨k⟩⟩
      have HMS : Aside0 (∀ W a b v6 v9 A c, Hold w W a b v6 v9 p1 q1 → Kd.S k101 101 W w.heap.size (fun k => a ≤ k ∧ k < b) (.slice A L.length c) L → Calls Try.prog 74 #[.slice A L.length c, .int .i64 1] W fun e w' => e = .returned (.int .i64 (M : Int)) ∧ Aside0 (Hold w w' a b v6 v9 p1 q1)) := by
        refine ⟨fun W a b v6 v9 A c hH hS => ?_⟩
        have := markMonoS_told (fun k => a ≤ k ∧ k < b) (.slice A L.length c) L 1 w W hH.below hS hL1 (by omega)
        rw [← hM] at this
        refine this.mono ?_
        rintro e w' ⟨rfl, h1, h2⟩
        exact ⟨rfl, ⟨hH.kept h2 h1⟩⟩
      have HMA : Aside0 (∀ W a b v6 v9, Hold w W a b v6 v9 p1 q1 → Calls Try.prog 34 #[v9, .int .i64 1] W fun e w' => e = .returned (.int .i64 hh) ∧ Aside0 (Hold w w' a b v6 v9 p1 m2)) := by
        refine ⟨fun W a b v6 v9 hH => ?_⟩
        refine (laws_markNodeS.calls k _ v9 q1 1 hh m2 w W hH.below hH.r9 hma).mono ?_
        rintro e w' ⟨rfl, h1, h2, h3⟩
        exact ⟨rfl, ⟨hH.mark h3 h1 h2⟩⟩
      have HHE : Aside0 (∀ W a b v6 v9, Hold w W a b v6 v9 p1 m2 → Calls Try.prog 35 #[v9, .int .i64 1] W fun e w' => e = .returned (.int .i64 hh) ∧ Aside0 (Hold w w' a b v6 v9 p1 m2)) := by
        refine ⟨fun W a b v6 v9 hH => ?_⟩
        obtain ⟨A9, c9, rfl, h9, C9⟩ := Kd.R_reads hH.r9
        refine (laws_heldNodeS.calls k A9 c9 m2 1 hh W C9 h9 hhe).mono ?_
        rintro e w' ⟨rfl, hd⟩
        exact ⟨rfl, ⟨hH.step hd.below⟩⟩
      have n1 : (t < 0) = False := eq_false htn
      have n2 : ((M : Int) < 0) = False := eq_false (by omega)
      have n3 : (hh < 0) = False := eq_false (by omega)
      clear hr1 hc1 hto hsp him he1 he2 hma hhe hM hL1 hL2 hh0 h ht htn
      generalize L.length = nL at *
      have tok1 : True := trivial
      go_enter Try.func19, Try.ntmps19
      go_wp2_with (first
        | (go_at_call 36; (with_reducible refine HSZ.out.mono ?_); rintro e w1 ⟨rfl, hb⟩; have B1 := Aside0.mk hb; clear hb)
        | (go_at_call 38; have _t := tok1; (with_reducible refine (HTO.out _ B1.out).mono ?_); rintro e w2 ⟨A2, c2, rfl, Z2⟩; clear _t tok1; have tok2 : True := trivial)
        | (go_at_call 72; (with_reducible refine (HSP.out _ _ _ _ Z2.out.1).mono ?_); rintro e w3 ⟨v3, rfl, Z3⟩)
        | (go_at_call 38; have _t := tok2; (with_reducible refine (HTO.out _ (below_step (below_step B1.out Z2.out.2) Z3.out.2)).mono ?_); rintro e w4 ⟨A4, c4, rfl, Z4⟩; clear _t tok2; have tok3 : True := trivial)
        | (go_at_call 73; have _t := tok3; (with_reducible refine (HIM.out _ _ _ _ Z4.out.1).mono ?_); rintro e w5 ⟨v5, rfl, Z5⟩; have H5 := hold_start B1 Z2 Z3 Z4 Z5; have S5 := Aside0.mk (Kd.S_below (Kd.S_mono (ok' := fun k => w3.heap.size ≤ k ∧ k < w4.heap.size) (Kd.S_bound Z4.out.1) (fun k hk => ⟨hk.2.1, hk.2.2.1⟩)) Z5.out.2); clear _t tok3; have tok4 : True := trivial)
        | (go_at_call 24; have _t := tok4; (with_reducible refine (HEQ.out _ _ _ _ _ H5.out).mono ?_); rintro e w6 ⟨rfl, Z6⟩; clear _t tok4; have tok5 : True := trivial)
        | (go_at_call 38; have _t := tok5; (with_reducible refine (HTO.out _ Z6.out.1.below).mono ?_); rintro e w7 ⟨A7, c7, rfl, Z7⟩; clear _t tok5; have tok6 : True := trivial)
        | (go_at_call 40; have S7 := Aside0.mk (Kd.S_below S5.out (below_step Z6.out.2 Z7.out.2)); (with_reducible refine (HES.out _ _ _ _ _ _ _ (Kd.S_mono S7.out (fun _ _ => trivial)) Z7.out.1).mono ?_); rintro e w8 ⟨rfl, Z8⟩; have H8 := Aside0.mk ((Z6.out.1.step Z7.out.2).step Z8.out); have S8 := Aside0.mk (Kd.S_lower (Kd.S_below S7.out Z8.out) (below_size (below_step (below_step B1.out Z2.out.2) Z3.out.2))))
        | (go_at_call 74; (with_reducible refine (HMS.out _ _ _ _ _ _ _ H8.out S8.out).mono ?_); rintro e w9 ⟨rfl, H9⟩; clear tok6; have tok7 : True := trivial)
        | (go_at_call 24; have _t := tok7; (with_reducible refine (HEQ.out _ _ _ _ _ H9.out).mono ?_); rintro e w10 ⟨rfl, Z10⟩; clear _t tok7; have tok8 : True := trivial)
        | (go_at_call 34; (with_reducible refine (HMA.out _ _ _ _ _ Z10.out.1).mono ?_); rintro e w11 ⟨rfl, H11⟩)
        | (go_at_call 35; have _t := tok8; (with_reducible refine (HHE.out _ _ _ _ _ H11.out).mono ?_); rintro e w12 ⟨rfl, H12⟩; clear _t tok8; have tok9 : True := trivial)
        | (go_at_call 38; have _t := tok9; (with_reducible refine (HTO.out _ H12.out.below).mono ?_); rintro e w13 ⟨A13, c13, rfl, Z13⟩; clear _t tok9; have tok10 : True := trivial)
        | (go_at_call 73; have _t := tok10; (with_reducible refine (HIM.out _ _ _ _ Z13.out.1).mono ?_); rintro e w14 ⟨v14, rfl, Z14⟩; have H14 := Aside0.mk ((H12.out.step Z13.out.2).step Z14.out.2); clear _t tok10; have tok11 : True := trivial)
        | (go_at_call 24; have _t := tok11; (with_reducible refine (HEQ2.out _ _ _ _ _ _ _ H14.out Z14.out.1).mono ?_); rintro e w15 ⟨rfl, H15⟩; clear _t tok11; have tok12 : True := trivial)
        | (go_at_call 35; have _t := tok12; (with_reducible refine (HHE.out _ _ _ _ _ H15.out).mono ?_); rintro e w16 ⟨rfl, H16⟩; clear _t tok12))
      go_ret
      exact ⟨rfl, H16.out.below⟩
    · rw [if_neg hc] at h
      exact absurd h (by simp)

end Go.Proofs.Ytlneknaiimmfmaa.PFnExactTermOf
