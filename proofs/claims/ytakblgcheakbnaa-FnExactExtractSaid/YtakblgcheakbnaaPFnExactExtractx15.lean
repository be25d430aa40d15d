/- Functions of the program and of the reference as plain Lean functions, and what their calls come to; partly printed by a program, partly by hand; no condition beyond what each theorem says. -/
import Derived.Test.YtakblgcheakbnaaPFnExactExtractx0
namespace Go.Proofs.Ytakblgcheakbnaa.PFnExactExtract
open Go.RowKit Go.Proofs.YtakblgcheakbnaaW.PrintWords Go.Proofs.YtakblgcheakbnaaW.PrintLast Go.Proofs.YtakblgcheakbnaaW.PrintMore
attribute [local go_sem] max2_int min2_int max_two min_two max_three min_three max_four min_four   -- for this text's walks alone
set_option linter.unusedVariables false
set_option linter.unusedSimpArgs false

/-! ### impl_members: function 110 -/
def impl_members.l0 : Nat → Int → List Int → List Int → Int → Int → Option (List Int)
  | 0, _, _, _, _, _ => none
  | k + 1, x1, x5, x9, x10, x11 => if x11 < x10 then (if 0 ≤ x11 then (if x11 < (x9.length : Int) then (if (rd x9 x11) = x1 then (if x5.length < 17592186044416 then (impl_members.l0 k x1 (x5 ++ [x11]) x9 x10 (wrap64 (x11 + 1))) else (none)) else (impl_members.l0 k x1 x5 x9 x10 (wrap64 (x11 + 1)))) else (none)) else (none)) else (some x5)
def impl_members.f (k : Nat) (l0 : List Int) (a1 : Int) : Option (List Int) := impl_members.l0 k a1 (([] : List Int)) l0 (l0.length : Int) 0
set_option maxHeartbeats 8000000 in
set_option maxRecDepth 100000 in
theorem impl_members.calls (k : Nat) (A0 : Option Addr) (c0 : Nat) (l0 : List Int) (a1 : Int) (r : List Int) (w : World) (hr0 : Kd.C (Kd.int .i64) w A0 l0.length l0) (hc0 : l0.length ≤ c0) (h : impl_members.f k l0 a1 = some r) :
    Calls Try.prog 110 #[.slice A0 l0.length c0, .int .i64 a1] w fun e w' => ∃ v0_ : Value, e = .returned (v0_) ∧ Kd.R (Kd.int .i64) 3 w' w.heap.size (fun _ => True) v0_ r ∧ Below w.heap.size w w' := by
  (have HR0 := Aside0.mk hr0); (have HC0 := Aside0.mk hc0); (clear hr0 hc0); (have HB := Aside0.mk (Below.refl w.heap.size w)); (have H : (impl_members.l0 k a1 (([] : List Int)) l0 (l0.length : Int) 0) = some r := h); (clear h); (obtain ⟨y291, hy291⟩ : ∃ y_ : List Int, y_ = (([] : List Int)) := ⟨_, rfl⟩); (replace H : (impl_members.l0 k a1 y291 l0 (l0.length : Int) 0) = some r := by first | (rw [hy291]; with_reducible exact H) | (have H2_ := (Option.bind_some _ _).symm.trans H; rw [hy291]; with_reducible exact H2_) | (have H2_ := (Option.bind_some _ _).symm.trans H; with_reducible exact H2_) | with_reducible exact H | (rw [hy291]; exact H) | exact H); (have Ny291 := Aside0.mk hy291); (clear hy291); (have H' := Aside0.mk H); (clear H); (go_enter Try.func110, Try.ntmps110); (go_wp2_with (first | ((with_reducible refine gate_dst (N := 8) rfl ?_); refine Kd.R_lit (Kd.int .i64) _ 3 ?hg (N := 8) ?hd (xs := ([] : List Int)) (inner := []) (ok := fun _ => True) (okp := fun _ => True) ?hr ?hp (fun _ hk => hk) trivial (Below.refl _ _) (Nat.le_refl _) (by simp) ?_; (case hd => rfl); (case hg => rfl); (case hr => first | (go_simp; done) | (go_simp; rfl)); (case hp => exact (Reps.none _ _)); intro v292 w3 ho4 hb hg_ hnew_; clear hg_ hnew_; (first | rw [← Ny291.out] at ho4 | (simp only [Int.reduceToNat] at ho4; rw [← Ny291.out] at ho4)); have n0_ := Aside0.mk (Kd.R_lower ho4 (below_size hbQ)); have n1_ := Aside0.mk (below_step hbQ hb); clear HB; have HO293 := n0_; have HB := n1_; clear n0_ n1_; clear hb ho4)))
  go_loopg [5, 11] k (fun kq v5 v11 w' => ∃ (x5_1 : List Int) (x11_1 : Int), v11 = .int .i64 x11_1 ∧ Aside0 (impl_members.l0 kq a1 x5_1 l0 (l0.length : Int) x11_1 = some r) ∧ Aside0 (kq ≤ k) ∧ Aside0 (Kd.R (Kd.int .i64) 3 w' w.heap.size (fun _ => True) v5 x5_1) ∧ Aside0 (Below w.heap.size w w'))
  case atStart => exact ⟨(y291), (0), (by first | rfl | (simp; done) | (simp [*]; done)), H', ⟨Nat.le_refl _⟩, ⟨by (with_reducible repeat (first | apply Kd.R_alloc | apply Kd.R_drewN | apply Kd.R_drew)); exact HO293.out⟩, ⟨hbQ⟩⟩
  case round =>
    (clear H'); (try clear c1); (try clear p2); (obtain ⟨x5_1, x11_1, rfl, HA, HK1, HO_5, HB⟩ := hrel)
    cases gk with
    | zero => exact absurd HA.out (by simp [impl_members.l0])
    | succ k1 =>
      (have H := HA.out); (clear HA); (simp only [impl_members.l0] at H); (by_cases c5 : x11_1 < (l0.length : Int))
      · rw [if_pos c5] at H
        (have c5b0 : decide (x11_1 < (l0.length : Int)) = true := decide_eq_true c5); (clear c5); (by_cases c6 : 0 ≤ x11_1)
        · rw [if_pos c6] at H
          (have c6b0 : decide (0 ≤ x11_1) = true := decide_eq_true c6); (clear c6); (by_cases c7 : x11_1 < (l0.length : Int))
          · rw [if_pos c7] at H
            (have c7b0 : decide (x11_1 < (l0.length : Int)) = true := decide_eq_true c7); (clear c7); (by_cases c8 : (rd l0 x11_1) = a1)
            · rw [if_pos c8] at H
              (have c8b0 : ((rd l0 x11_1) == a1) = true := beq_iff_eq.mpr c8); (have c8b1 : ((rd l0 x11_1) != a1) = false := bne_eq_false_iff_eq.mpr c8); (clear c8); (by_cases c9 : x5_1.length < 17592186044416)
              · rw [if_pos c9] at H
                (have LMc9 := Aside0.mk c9); (clear c9); (obtain ⟨y295, hy295⟩ : ∃ y_ : List Int, y_ = (x5_1 ++ [x11_1]) := ⟨_, rfl⟩); (replace H : (impl_members.l0 k1 a1 y295 l0 (l0.length : Int) (wrap64 (x11_1 + 1))) = some r := by first | (rw [hy295]; with_reducible exact H) | (have H2_ := (Option.bind_some _ _).symm.trans H; rw [hy295]; with_reducible exact H2_) | (have H2_ := (Option.bind_some _ _).symm.trans H; with_reducible exact H2_) | with_reducible exact H | (rw [hy295]; exact H) | exact H); (have Ny295 := Aside0.mk hy295); (clear hy295); (have H' := Aside0.mk H); (clear H); (have p294 : 0 ≤ (x11_1 : Int) := odQ); (have q294 : x11_1 < (l0.length : Int) := odQ); (obtain ⟨ad294, e294, hx294_0⟩ := Kd.at_int HR0.out x11_1 p294 q294); (cases e294); (replace hx294_0 := (HB.out.cell (World.block_lt_of_cell? w _ hx294_0)).trans hx294_0); (replace p294 := eq_true p294); (replace q294 := eq_true q294); (go_wp2_with (first | ((with_reducible refine gate_builtin (b := .append) (xs := #[.tmp 19, .tmp 21]) rfl ?_); at_builtin; refine Kd.R_append (Kd.int .i64) (w0 := w) w.heap.size rfl (.tmp 19) (.tmp 21) 23 3 (.int .i64 0) 8 rfl Try.underlying23 info3 rfl (by decide) (by omega) u5 x5_1 x11_1 [.int .i64 x11_1] (fun _ => True) (fun _ => False) rfl rfl ?aP (fun _ hk => hk.elim) ?aF ?aO ?aB ?aS ?aL ?_; (case aP => exact rfl); (case aB => exact hbQ); (case aF => exact (fun _ _ => trivial)); (case aO => exact (by (with_reducible repeat (first | apply Kd.R_alloc | apply Kd.R_drewN | apply Kd.R_drew)); exact HO_5.out)); (case aS => exact (below_size hbQ)); (case aL => have := LMc9.out; omega); intro v296 w10 ho hb hg hat; rw [← Ny295.out] at ho; have n0_ := Aside0.mk (hb); have n1_ := Aside0.mk (ho); clear HB; clear HO_5; have HB := n0_; have HO297 := n1_; clear n0_ n1_; clear ho hb hg hat))); (go_roundg k1)
                case measure => have := HK1.out; omega
                case rel => exact ⟨(y295), (wrap64 (x11_1 + 1)), (by first | rfl | (simp; done) | (simp [*]; done)), H', ⟨by have := HK1.out; omega⟩, ⟨by (with_reducible repeat (first | apply Kd.R_alloc | apply Kd.R_drewN | apply Kd.R_drew)); exact HO297.out⟩, ⟨hbQ⟩⟩
              (focus ((rw [if_neg c9] at H); (exact absurd H (by simp))))
            · rw [if_neg c8] at H
              (have c8b0 : ((rd l0 x11_1) == a1) = false := beq_eq_false_iff_ne.mpr c8); (have c8b1 : ((rd l0 x11_1) != a1) = true := bne_iff_ne.mpr c8); (have H' := Aside0.mk H); (clear H); (have p294 : 0 ≤ (x11_1 : Int) := odQ); (have q294 : x11_1 < (l0.length : Int) := odQ); (obtain ⟨ad294, e294, hx294_0⟩ := Kd.at_int HR0.out x11_1 p294 q294); (cases e294); (replace hx294_0 := (HB.out.cell (World.block_lt_of_cell? w _ hx294_0)).trans hx294_0); (replace p294 := eq_true p294); (replace q294 := eq_true q294); (go_wp2); (go_roundg k1)
              case measure => have := HK1.out; omega
              case rel => exact ⟨(x5_1), (wrap64 (x11_1 + 1)), (by first | rfl | (simp; done) | (simp [*]; done)), H', ⟨by have := HK1.out; omega⟩, ⟨by (with_reducible repeat (first | apply Kd.R_alloc | apply Kd.R_drewN | apply Kd.R_drew)); exact HO_5.out⟩, ⟨hbQ⟩⟩
          (focus ((rw [if_neg c7] at H); (exact absurd H (by simp))))
        (focus ((rw [if_neg c6] at H); (exact absurd H (by simp))))
      (focus ((rw [if_neg c5] at H); (have c5b0 : decide (x11_1 < (l0.length : Int)) = false := decide_eq_false c5); (clear c5); (obtain rfl := Option.some.inj H); (go_wp2); (go_ret); (exact ⟨_, by first | rfl | (simp [errW_none, errW_some] <;> rfl) | (simp [*, errW_none, errW_some] <;> rfl), by (with_reducible repeat (first | apply Kd.R_alloc | apply Kd.R_drewN | apply Kd.R_drew)); exact HO_5.out, hbQ⟩)))

end Go.Proofs.Ytakblgcheakbnaa.PFnExactExtract
