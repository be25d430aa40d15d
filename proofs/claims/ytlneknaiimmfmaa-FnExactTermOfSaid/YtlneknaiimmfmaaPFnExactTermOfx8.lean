/- Functions of the program and of the reference as plain Lean functions, and what their calls come to; partly printed by a program, partly by hand; no condition beyond what each theorem says. -/
import Derived.Test.YtlneknaiimmfmaaPFnExactTermOfx0
namespace Go.Proofs.Ytlneknaiimmfmaa.PFnExactTermOf
open Go.RowKit Go.Proofs.YtlneknaiimmfmaaW.PrintWords Go.Proofs.YtlneknaiimmfmaaW.PrintLast Go.Proofs.YtlneknaiimmfmaaW.PrintMore
attribute [local go_sem] max2_int min2_int max_two min_two max_three min_three max_four min_four   -- for this text's walks alone
set_option linter.unusedVariables false
set_option linter.unusedSimpArgs false

/-! ### impl_within: function 84 -/
def impl_within.f (a0 : Int) (a1 : Int) (a2 : Int) : Option (Bool) := if a0 ≥ a1 then (some (decide (a0 ≤ a2))) else (some false)
set_option maxHeartbeats 8000000 in
set_option maxRecDepth 100000 in
theorem impl_within.calls (a0 : Int) (a1 : Int) (a2 : Int) (r : Bool) (w : World) (h : impl_within.f a0 a1 a2 = some r) :
    Calls Try.prog 84 #[.int .i64 a0, .int .i64 a1, .int .i64 a2] w fun e w' => e = .returned (.bool r) ∧ Drawn0 w w' := by
  have H : (if a0 ≥ a1 then (some (decide (a0 ≤ a2))) else (some false)) = some r := h
  clear h
  by_cases c4 : a0 ≥ a1
  · rw [if_pos c4] at H
    have c4b0 : decide (a1 ≤ a0) = true := decide_eq_true c4
    clear c4
    obtain rfl := Option.some.inj H
    go_enter Try.func84, Try.ntmps84
    go_wp2
    go_ret
    exact ⟨by first | rfl | (simp; done) | (simp [*]; done), by repeat (first | exact Drawn0.refl _ | apply Drawn0.step)⟩
  · rw [if_neg c4] at H
    have c4b0 : decide (a1 ≤ a0) = false := decide_eq_false c4
    clear c4
    obtain rfl := Option.some.inj H
    go_enter Try.func84, Try.ntmps84
    go_wp2
    go_ret
    exact ⟨by first | rfl | (simp; done) | (simp [*]; done), by repeat (first | exact Drawn0.refl _ | apply Drawn0.step)⟩

/-! ### impl_arity: function 108 -/
def impl_arity.j0 : Nat → Int → Bool → Option (Int)
  | 0, _, _ => none
  | k + 1, x3, x4 => if x4 = true then (some 0) else (if x3 = 3 then (some 1) else (if x3 = 11 then (some 3) else (some 2)))
def impl_arity.f (k : Nat) (a0 : Int) : Option (Int) := if a0 = 1 then (impl_arity.j0 k a0 (a0 == 1)) else (impl_arity.j0 k a0 (a0 == 2))
theorem impl_arity.mono_l : ∀ k, (∀ y0 y1, LeO (impl_arity.j0 k y0 y1) (impl_arity.j0 (k + 1) y0 y1))
  | 0 => fun _ _ r h => by simp [impl_arity.j0] at h
  | k + 1 => by
    have ih0 := impl_arity.mono_l k
    · intro y0 y1
      unfold impl_arity.j0
      repeat' first
      | (with_reducible exact ih0 _ _)
      | (with_reducible exact LeO.refl _)
      | (with_reducible exact LeO.none _)
      | (with_reducible refine LeO.ite ?_ ?_)
      | (with_reducible refine LeO.bind ?_ (fun _ => ?_))
      | exact ih0 _ _
      | exact LeO.none _
      | refine LeO.ite ?_ ?_
      | refine LeO.bind ?_ (fun _ => ?_)
theorem impl_arity.mono : ∀ a0 k, LeO (impl_arity.f k a0) (impl_arity.f (k + 1) a0) := by
  intro a0 k
  have ih0 := impl_arity.mono_l k
  unfold impl_arity.f
  repeat' first
      | (with_reducible exact ih0 _ _)
      | (with_reducible exact LeO.refl _)
      | (with_reducible exact LeO.none _)
      | (with_reducible refine LeO.ite ?_ ?_)
      | (with_reducible refine LeO.bind ?_ (fun _ => ?_))
      | exact ih0 _ _
      | exact LeO.none _
      | refine LeO.ite ?_ ?_
      | refine LeO.bind ?_ (fun _ => ?_)
set_option maxHeartbeats 8000000 in
set_option maxRecDepth 100000 in
theorem impl_arity.calls (k : Nat) (a0 : Int) (r : Int) (w : World) (h : impl_arity.f k a0 = some r) :
    Calls Try.prog 108 #[.int .i64 a0] w fun e w' => e = .returned (.int .i64 r) ∧ Drawn0 w w' := by
  have H : (if a0 = 1 then (impl_arity.j0 k a0 (a0 == 1)) else (impl_arity.j0 k a0 (a0 == 2))) = some r := h
  clear h
  have HC2 := Aside0.mk H
  clear H
  go_enter Try.func108, Try.ntmps108
  go_upto_if 4 with (fail)
  go_cut [4] (fun v4 wc => ∃ (kq : Nat) (x4_1 : Bool), v4 = .bool x4_1 ∧ Aside0 (impl_arity.j0 kq a0 x4_1 = some r) ∧ Aside0 (kq ≤ k) ∧ Drawn0 w wc)
  case first =>
    have H := HC2.out
    clear HC2
    by_cases c3 : a0 = 1
    · rw [if_pos c3] at H
      have c3b0 : (a0 == 1) = true := beq_iff_eq.mpr c3
      have c3b1 : (a0 != 1) = false := bne_eq_false_iff_eq.mpr c3
      clear c3
      (first | rw [c3b0] | (simp only [i64_w, i32_w]; rw [c3b0]) | skip)
      have H' := Aside0.mk H
      clear H
      go_wp2
      go_meet
      case rel => exact ⟨_, ((a0 == 1)), (by first | rfl | (simp; done) | (simp [*]; done)), H', ⟨by first | omega | exact Nat.le_refl _⟩, by repeat (first | exact Drawn0.refl _ | apply Drawn0.step)⟩
    · rw [if_neg c3] at H
      have c3b0 : (a0 == 1) = false := beq_eq_false_iff_ne.mpr c3
      have c3b1 : (a0 != 1) = true := bne_iff_ne.mpr c3
      (first | rw [c3b0] | (simp only [i64_w, i32_w]; rw [c3b0]) | skip)
      have H' := Aside0.mk H
      clear H
      go_wp2
      go_meet
      case rel => exact ⟨_, ((a0 == 2)), (by first | rfl | (simp; done) | (simp [*]; done)), H', ⟨by first | omega | exact Nat.le_refl _⟩, by repeat (first | exact Drawn0.refl _ | apply Drawn0.step)⟩
  case rest =>
    clear HC2
    try clear c1
    try clear p2
    try clear c3
    try clear c3b0
    try clear c3b1
    obtain ⟨kq, x4_1, rfl, HA, HJ1, ⟨mc1, rfl⟩⟩ := hcut
    cases kq with
    | zero => exact absurd HA.out (by simp [impl_arity.j0])
    | succ kj1 =>
      have H := HA.out
      clear HA
      simp only [impl_arity.j0] at H
      by_cases c4 : x4_1 = true
      · subst c4
        have H1 : (some 0) = some r := by rw [if_pos rfl] at H; exact H
        clear H
        have H := H1
        clear H1
        obtain rfl := Option.some.inj H
        go_wp2
        go_ret
        exact ⟨by first | rfl | (simp; done) | (simp [*]; done), by repeat (first | exact Drawn0.refl _ | apply Drawn0.step)⟩
      · replace c4 := Bool.eq_false_iff.mpr c4
        subst c4
        have H1 : (if a0 = 3 then (some 1) else (if a0 = 11 then (some 3) else (some 2))) = some r := by rw [if_neg (show ¬ (false = true) by decide)] at H; exact H
        clear H
        have H := H1
        clear H1
        by_cases c5 : a0 = 3
        · rw [if_pos c5] at H
          have c5b0 : (a0 == 3) = true := beq_iff_eq.mpr c5
          have c5b1 : (a0 != 3) = false := bne_eq_false_iff_eq.mpr c5
          clear c5
          obtain rfl := Option.some.inj H
          go_wp2
          go_ret
          exact ⟨by first | rfl | (simp; done) | (simp [*]; done), by repeat (first | exact Drawn0.refl _ | apply Drawn0.step)⟩
        · rw [if_neg c5] at H
          have c5b0 : (a0 == 3) = false := beq_eq_false_iff_ne.mpr c5
          have c5b1 : (a0 != 3) = true := bne_iff_ne.mpr c5
          by_cases c6 : a0 = 11
          · rw [if_pos c6] at H
            have c6b0 : (a0 == 11) = true := beq_iff_eq.mpr c6
            have c6b1 : (a0 != 11) = false := bne_eq_false_iff_eq.mpr c6
            clear c6
            obtain rfl := Option.some.inj H
            go_wp2
            go_ret
            exact ⟨by first | rfl | (simp; done) | (simp [*]; done), by repeat (first | exact Drawn0.refl _ | apply Drawn0.step)⟩
          · rw [if_neg c6] at H
            have c6b0 : (a0 == 11) = false := beq_eq_false_iff_ne.mpr c6
            have c6b1 : (a0 != 11) = true := bne_iff_ne.mpr c6
            obtain rfl := Option.some.inj H
            go_wp2
            go_ret
            exact ⟨by first | rfl | (simp; done) | (simp [*]; done), by repeat (first | exact Drawn0.refl _ | apply Drawn0.step)⟩

/-! ### impl_isOp: function 143 -/
def impl_isOp.f (a0 : Int) : Option (Bool) := (impl_within.f a0 1 11).bind fun t204 => (some t204)
set_option maxHeartbeats 8000000 in
set_option maxRecDepth 100000 in
theorem impl_isOp.calls (a0 : Int) (r : Bool) (w : World) (h : impl_isOp.f a0 = some r) :
    Calls Try.prog 143 #[.int .i64 a0] w fun e w' => e = .returned (.bool r) ∧ Drawn0 w w' := by
  have H : ((impl_within.f a0 1 11).bind fun t204 => (some t204)) = some r := h
  clear h
  replace H := Option.bind_eq_some_iff.mp H
  obtain ⟨t204, A20, H⟩ := H
  replace H : (some t204) = some r := H
  have A2 := Aside0.mk A20
  clear A20
  obtain rfl := Option.some.inj H
  go_enter Try.func143, Try.ntmps143
  go_wp2_with (first | ((with_reducible refine gate_callee (f := 84) rfl ?_); refine goesL_ (some 4) rfl rfl Try.func84 (by kernel_rfl) rfl #[.int .i64 a0, .int .i64 1, .int .i64 11] rfl (by (try simp only [List.map_toArray, List.map_cons, List.map_nil]); first | done | rfl | (simp only [List.length_drop, List.length_take]; rfl)) ?_; (with_reducible refine (impl_within.calls a0 1 11 t204 _ A2.out).mono ?_); rintro e w' ⟨rfl, ⟨nd, rfl⟩⟩; refine ⟨_, rfl, ?_⟩))
  go_ret
  exact ⟨by first | rfl | (simp; done) | (simp [*]; done), by repeat (first | exact Drawn0.refl _ | apply Drawn0.step)⟩

/-! ### impl_numOK: function 116 -/
def impl_numOK.f (a0 : Int) (a1 : Int) : Option (Bool) := if a0 = 1 then (some true) else (if a0 = 2 then (if a1 ≥ 0 then (some (decide (a1 < 4))) else (some false)) else ((impl_isOp.f a0).bind fun t205 => (if t205 = true then (some (a1 == 0)) else (some false))))
set_option maxHeartbeats 8000000 in
set_option maxRecDepth 100000 in
theorem impl_numOK.calls (a0 : Int) (a1 : Int) (r : Bool) (w : World) (h : impl_numOK.f a0 a1 = some r) :
    Calls Try.prog 116 #[.int .i64 a0, .int .i64 a1] w fun e w' => e = .returned (.bool r) ∧ Drawn0 w w' := by
  have H : (if a0 = 1 then (some true) else (if a0 = 2 then (if a1 ≥ 0 then (some (decide (a1 < 4))) else (some false)) else ((impl_isOp.f a0).bind fun t205 => (if t205 = true then (some (a1 == 0)) else (some false))))) = some r := h
  clear h
  by_cases c3 : a0 = 1
  · rw [if_pos c3] at H
    have c3b0 : (a0 == 1) = true := beq_iff_eq.mpr c3
    have c3b1 : (a0 != 1) = false := bne_eq_false_iff_eq.mpr c3
    clear c3
    obtain rfl := Option.some.inj H
    go_enter Try.func116, Try.ntmps116
    go_wp2
    go_ret
    exact ⟨by first | rfl | (simp; done) | (simp [*]; done), by repeat (first | exact Drawn0.refl _ | apply Drawn0.step)⟩
  · rw [if_neg c3] at H
    have c3b0 : (a0 == 1) = false := beq_eq_false_iff_ne.mpr c3
    have c3b1 : (a0 != 1) = true := bne_iff_ne.mpr c3
    by_cases c4 : a0 = 2
    · rw [if_pos c4] at H
      have c4b0 : (a0 == 2) = true := beq_iff_eq.mpr c4
      have c4b1 : (a0 != 2) = false := bne_eq_false_iff_eq.mpr c4
      clear c4
      by_cases c5 : a1 ≥ 0
      · rw [if_pos c5] at H
        have c5b0 : decide (0 ≤ a1) = true := decide_eq_true c5
        clear c5
        obtain rfl := Option.some.inj H
        go_enter Try.func116, Try.ntmps116
        go_wp2
        go_ret
        exact ⟨by first | rfl | (simp; done) | (simp [*]; done), by repeat (first | exact Drawn0.refl _ | apply Drawn0.step)⟩
      · rw [if_neg c5] at H
        have c5b0 : decide (0 ≤ a1) = false := decide_eq_false c5
        clear c5
        obtain rfl := Option.some.inj H
        go_enter Try.func116, Try.ntmps116
        go_wp2
        go_ret
        exact ⟨by first | rfl | (simp; done) | (simp [*]; done), by repeat (first | exact Drawn0.refl _ | apply Drawn0.step)⟩
    · rw [if_neg c4] at H
      have c4b0 : (a0 == 2) = false := beq_eq_false_iff_ne.mpr c4
      have c4b1 : (a0 != 2) = true := bne_iff_ne.mpr c4
      replace H := Option.bind_eq_some_iff.mp H
      obtain ⟨t205, A60, H⟩ := H
      replace H : (if t205 = true then (some (a1 == 0)) else (some false)) = some r := H
      have A6 := Aside0.mk A60
      clear A60
      by_cases c7 : t205 = true
      · subst c7
        have H1 : (some (a1 == 0)) = some r := by rw [if_pos rfl] at H; exact H
        clear H
        have H := H1
        clear H1
        obtain rfl := Option.some.inj H
        go_enter Try.func116, Try.ntmps116
        go_wp2_with (first | ((with_reducible refine gate_callee (f := 143) rfl ?_); refine goesL_ (some 17) rfl rfl Try.func143 (by kernel_rfl) rfl #[.int .i64 a0] rfl (by (try simp only [List.map_toArray, List.map_cons, List.map_nil]); first | done | rfl | (simp only [List.length_drop, List.length_take]; rfl)) ?_; (with_reducible refine (impl_isOp.calls a0 true _ A6.out).mono ?_); rintro e w' ⟨rfl, ⟨nd, rfl⟩⟩; refine ⟨_, rfl, ?_⟩))
        go_ret
        exact ⟨by first | rfl | (simp; done) | (simp [*]; done), by repeat (first | exact Drawn0.refl _ | apply Drawn0.step)⟩
      · replace c7 := Bool.eq_false_iff.mpr c7
        subst c7
        have H1 : (some false) = some r := by rw [if_neg (show ¬ (false = true) by decide)] at H; exact H
        clear H
        have H := H1
        clear H1
        obtain rfl := Option.some.inj H
        go_enter Try.func116, Try.ntmps116
        go_wp2_with (first | ((with_reducible refine gate_callee (f := 143) rfl ?_); refine goesL_ (some 17) rfl rfl Try.func143 (by kernel_rfl) rfl #[.int .i64 a0] rfl (by (try simp only [List.map_toArray, List.map_cons, List.map_nil]); first | done | rfl | (simp only [List.length_drop, List.length_take]; rfl)) ?_; (with_reducible refine (impl_isOp.calls a0 false _ A6.out).mono ?_); rintro e w' ⟨rfl, ⟨nd, rfl⟩⟩; refine ⟨_, rfl, ?_⟩))
        go_ret
        exact ⟨by first | rfl | (simp; done) | (simp [*]; done), by repeat (first | exact Drawn0.refl _ | apply Drawn0.step)⟩

/-! ### slices.Clone[[]*impl.tree,*impl.tree]: function 117, by hand -/
theorem infoPtr : (Try.prog.info? 91).map (fun i => (i.zero, i.size, i.bytes)) = some (some (.pointer none), 1, 8) := by kernel_rfl
set_option maxHeartbeats 8000000 in
set_option maxRecDepth 100000 in
theorem slices_Clone_ptr.calls (A0 : Option Addr) (c0 : Nat) (l0 : List Addr) (w : World) (hr0 : Kd.C Tree.ptrK w A0 l0.length l0) (hc0 : l0.length ≤ c0) (hl : l0.length ≤ 1000) :
    Calls Try.prog 117 #[.slice A0 l0.length c0] w fun e w' => ∃ v0_ : Value, e = .returned (v0_) ∧ Kd.R Tree.ptrK 91 w' w.heap.size (fun _ => True) v0_ l0 ∧ Below w.heap.size w w' := by
  have HR0 := Aside0.mk hr0
  have HC0 := Aside0.mk hc0
  have HL := Aside0.mk hl
  clear hr0 hc0 hl
  cases A0 with
  | none =>
    have hl : l0 = [] := by
      cases l0 with
      | nil => rfl
      | cons a t => obtain ⟨ad, e, _⟩ := HR0.out.2.2 (by simp); cases e
    subst hl
    have hnil := fun W => Lib.run_eql_slice_nil (P := Try.prog) W 95 91 none 0 c0 0 0 Try.underlying95
    show Calls Try.prog _ #[.slice none 0 c0] w _
    go_enter Try.func117, Try.ntmps117
    go_wp2
    go_ret
    exact ⟨_, rfl, Kd.R_nil _ _ _ _ _, Below.refl _ _⟩
  | some ad =>
    have hnil := fun W => Lib.run_eql_slice_nil (P := Try.prog) W 95 91 (some ad) l0.length c0 0 0 Try.underlying95
    have HB := Aside0.mk (Below.refl w.heap.size w)
    go_enter Try.func117, Try.ntmps117
    go_wp2_with (first | ((with_reducible refine gate_dst (N := 5) rfl ?_); refine Kd.R_lit Tree.ptrK _ 91 ?hg (N := 5) ?hd (xs := ([] : List Addr)) (inner := []) (ok := fun _ => True) (okp := fun _ => True) ?hr ?hp (fun _ hk => hk) trivial (Below.refl _ _) (Nat.le_refl _) (by simp) ?_; (case hd => rfl); (case hg => rfl); (case hr => first | (go_simp; done) | (go_simp; rfl)); (case hp => exact (Reps.none _ _)); intro v115 w3 ho4 hb hg_ hnew_; clear hg_ hnew_; have n0_ := Aside0.mk (Kd.R_lower ho4 (below_size (by repeat (first | (with_reducible first | exact HB.out | apply below_alloc | apply pw_below_drewN | apply below_drew1) | exact HB.out)))); have n1_ := Aside0.mk (below_step (by repeat (first | (with_reducible first | exact HB.out | apply below_alloc | apply pw_below_drewN | apply below_drew1) | exact HB.out)) hb); clear HB; have HO116 := n0_; have HB := n1_; clear n0_ n1_; clear hb ho4) | ((with_reducible refine gate_builtin (b := .append) (xs := #[.tmp 5, .tmp 6]) rfl ?_); at_builtin; refine Kd.R_append_rows Tree.ptrK (w0 := w) w.heap.size rfl (.tmp 5) (.tmp 6) 95 91 (.pointer none) 8 rfl Try.underlying95 infoPtr rfl (by decide) (by omega) v115 [] l0 _ _ _ (fun _ => True) (fun _ => False) rfl rfl ?aO ?aR (fun _ _ h => h) (fun _ h => h.elim) ?aF ?aB ?aS ?aL ?_; (case aR => repeat (first | exact (Kd.C_below HR0.out HB.out) | (with_reducible refine Kd.C_alloc ?_ _) | (with_reducible refine Kd.C_drewN ?_ _) | (with_reducible refine Kd.C_drew ?_))); (case aB => exact (by repeat (first | (with_reducible first | exact HB.out | apply below_alloc | apply pw_below_drewN | apply below_drew1) | exact HB.out))); (case aF => exact (fun _ _ => trivial)); (case aO => exact (by (with_reducible repeat (first | apply Kd.R_alloc | apply Kd.R_drewN | apply Kd.R_drew)); exact HO116.out)); (case aS => exact (below_size (by repeat (first | (with_reducible first | exact HB.out | apply below_alloc | apply pw_below_drewN | apply below_drew1) | exact HB.out)))); (case aL => have := HL.out; simp only [List.length_nil]; omega); intro v118 w5 ho hb hg hat; simp only [List.nil_append] at ho; have n0_ := Aside0.mk (hb); have n1_ := Aside0.mk (ho); clear HB; clear HO116; have HB := n0_; have HO119 := n1_; clear n0_ n1_; clear ho hb hg hat))
    go_ret
    exact ⟨_, rfl, by (with_reducible repeat (first | apply Kd.R_alloc | apply Kd.R_drewN | apply Kd.R_drew)); exact HO119.out, by repeat (first | (with_reducible first | exact HB.out | apply below_alloc | apply pw_below_drewN | apply below_drew1) | exact HB.out)⟩

/-! ### impl.trees: function 83, by hand -/
theorem arityC (op : Int) (w : World) : Calls Try.prog 108 #[.int .i64 op] w fun e w' => e = .returned (.int .i64 (Tree.arity op)) ∧ Drawn0 w w' := by
  refine impl_arity.calls 1 op _ w ?_
  unfold impl_arity.f Tree.arity
  by_cases h1 : op = 1
  · subst h1; rfl
  · rw [if_neg h1]
    simp only [impl_arity.j0]
    by_cases h2 : op = 2
    · subst h2; rfl
    · rw [if_neg (by simpa using h2), if_neg (by omega : ¬ (op = 1 ∨ op = 2))]
      by_cases h3 : op = 3
      · rw [if_pos h3, if_pos h3]
      · rw [if_neg h3, if_neg h3]
        by_cases h4 : op = 11
        · rw [if_pos h4, if_pos h4]
        · rw [if_neg h4, if_neg h4]
theorem numOKC (op n : Int) (w : World) : Calls Try.prog 116 #[.int .i64 op, .int .i64 n] w fun e w' => e = .returned (.bool (Tree.numOK op n)) ∧ Drawn0 w w' := by
  refine impl_numOK.calls op n _ w ?_
  unfold impl_numOK.f Tree.numOK impl_isOp.f impl_within.f
  by_cases h1 : op = 1
  · rw [if_pos h1, if_pos h1]
  · rw [if_neg h1, if_neg h1]
    by_cases h2 : op = 2
    · rw [if_pos h2, if_pos h2]
      by_cases h3 : n ≥ 0
      · rw [if_pos h3]; congr 1; rw [decide_eq_decide]; omega
      · rw [if_neg h3, decide_eq_false (by omega)]
    · rw [if_neg h2, if_neg h2]
      by_cases h3 : op ≥ 1
      · rw [if_pos h3]
        by_cases h4 : op ≤ 11
        · rw [decide_eq_true h4, Option.bind_some, Option.bind_some, if_pos rfl]
          congr 1
          rw [Bool.eq_iff_iff]; simp; omega
        · rw [decide_eq_false h4, decide_eq_false (by omega)]; rfl
      · rw [if_neg h3, decide_eq_false (by omega)]; rfl
theorem withinC (a b c : Int) (w : World) : Calls Try.prog 84 #[.int .i64 a, .int .i64 b, .int .i64 c] w fun e w' => e = .returned (.bool (decide (b ≤ a ∧ a ≤ c))) ∧ Drawn0 w w' := by
  refine impl_within.calls a b c _ w ?_
  unfold impl_within.f
  by_cases h : a ≥ b
  · rw [if_pos h]; congr 1; rw [decide_eq_decide]; omega
  · rw [if_neg h, decide_eq_false (by omega)]
/-- A list of nodes as pairs. -/
def toP (l : List S87) : List (Int × Int) := l.map fun x => (x.f0, x.f1)
theorem toP_len (l : List S87) : (toP l).length = l.length := List.length_map _
theorem build_succ (l : List S87) (k : Nat) (hk : k < l.length) {s0 s : List Tree.Tr × List Tree.Tr} (h : Tree.build (toP (l.take k)) s0 = some s) : Tree.build (toP (l.take (k + 1))) s0 = Tree.step s ((l.getD k z87).f0, (l.getD k z87).f1) := by
  have e : l.take (k + 1) = l.take k ++ [l.getD k z87] := by
    rw [List.take_add_one, List.getD_eq_getElem?_getD, List.getElem?_eq_getElem hk]
    rfl
  rw [e]
  unfold toP at h ⊢
  rw [List.map_append, Tree.build_append, h]
  show (Tree.step s _).bind (Tree.build []) = _
  cases Tree.step s ((l.getD k z87).f0, (l.getD k z87).f1) <;> rfl
theorem build_fail (l : List S87) (k : Nat) (hk : k < l.length) {s0 s : List Tree.Tr × List Tree.Tr} (h : Tree.build (toP (l.take k)) s0 = some s) (hf : Tree.step s ((l.getD k z87).f0, (l.getD k z87).f1) = none) : Tree.build (toP l) s0 = none := by
  have h1 := build_succ l k hk h
  have e : toP l = toP (l.take (k + 1)) ++ toP (l.drop (k + 1)) := by unfold toP; rw [← List.map_append, List.take_append_drop]
  rw [e, Tree.build_append, h1, hf]
  rfl
theorem treesOf_none (l : List S87) (h : Tree.build (toP l) ([], []) = none) : Tree.treesOf (toP l) = none := by
  unfold Tree.treesOf
  split
  · rw [h]; rfl
  · rfl
/-- What trees hands back. -/
def TreesRes (w w' : World) (r : Option (List Tree.Tr)) (v : Value) : Prop :=
  match r with
  | none => v = .slice none 0 0
  | some Ts => ∃ az : List Addr, 0 < Ts.length ∧ Kd.R Tree.ptrK 91 w' w.heap.size (fun _ => True) v az ∧ Tree.Trees w' (fun k => w.heap.size ≤ k ∧ some k ≠ v.ownBlock) Ts az
set_option maxHeartbeats 8000000 in
set_option maxRecDepth 100000 in
theorem impl_trees.calls (A0 : Option Addr) (c0 : Nat) (l0 : List S87) (w : World) (hr0 : Kd.C k87 w A0 l0.length l0) (hc0 : l0.length ≤ c0) :
    Calls Try.prog 83 #[.slice A0 l0.length c0] w fun e w' => ∃ v : Value, e = .returned v ∧ Aside0 (TreesRes w w' (Tree.treesOf (toP l0)) v) ∧ Below w.heap.size w w' := by
  have HR0 := Aside0.mk hr0
  have HC0 := Aside0.mk hc0
  clear hr0 hc0
  have HB := Aside0.mk (Below.refl w.heap.size w)
  by_cases hlen : 1 ≤ (l0.length : Int) ∧ (l0.length : Int) ≤ 40
  · have hW := fun W => withinC (l0.length : Int) 1 40 W
    rw [decide_eq_true hlen] at hW
    have HLEN := Aside0.mk hlen
    clear hlen
    go_enter Try.func83, Try.ntmps83
    go_wp2_with (first | (go_at_call 84; refine (hW _).mono ?_; rintro e w' ⟨rfl, ⟨q, rfl⟩⟩) | ((with_reducible refine gate_dst (N := 13) rfl ?_); refine Kd.R_lit Tree.ptrK _ 91 ?hg (N := 13) ?hd (xs := ([] : List Addr)) (inner := []) (ok := fun _ => True) (okp := fun _ => True) ?hr ?hp (fun _ hk => hk) trivial (Below.refl _ _) (Nat.le_refl _) (by simp) ?_; (case hd => rfl); (case hg => rfl); (case hr => first | (go_simp; done) | (go_simp; rfl)); (case hp => exact (Reps.none _ _)); intro v13 w13 ho13 hb13 hg_ hnew_; clear hg_ hnew_; have HO13 := Aside0.mk ho13; have HB13 := Aside0.mk hb13; clear ho13 hb13) | ((with_reducible refine gate_dst (N := 14) rfl ?_); refine Kd.R_lit Tree.ptrK _ 91 ?hg (N := 14) ?hd (xs := ([] : List Addr)) (inner := []) (ok := fun _ => True) (okp := fun _ => True) ?hr ?hp (fun _ hk => hk) trivial (Below.refl _ _) (Nat.le_refl _) (by simp) ?_; (case hd => rfl); (case hg => rfl); (case hr => first | (go_simp; done) | (go_simp; rfl)); (case hp => exact (Reps.none _ _)); intro v14 w14 ho14 hb14 hg14_ hnew14_; clear hg14_ hnew14_; have HO14 := Aside0.mk ho14; have HB14 := Aside0.mk hb14; clear ho14 hb14))
    go_loopg [3, 4, 17] l0.length (fun gg v3 v4 s17 wr => ∃ x : Int, s17 = .int .i64 x ∧ Aside0 (0 ≤ x ∧ x ≤ (l0.length : Int) ∧ l0.length - x.toNat ≤ gg ∧ ∃ s p o, Tree.build (toP (l0.take x.toNat)) ([], []) = some s ∧ Tree.St w wr v3 v4 s p o))
    case atStart =>
      refine ⟨0, rfl, ⟨by omega, by omega, by omega, ([], []), [], [], rfl, ?_⟩⟩
      have hb14 : Below w.heap.size w w14 := below_step (below_step (Below.refl _ _ |> fun h => pw_below_drewN h q) HB13.out) HB14.out
      have hs : w.heap.size ≤ w13.heap.size := HB13.out.size
      refine ⟨Kd.R_grown (Kd.R_lower HO13.out (Nat.le_refl _)) (Tree.grown_below HB14.out) (fun _ _ => by simp), Kd.R_lower HO14.out hs, fun k hk he => ?_, Tree.Trees.nil _, Tree.Trees.nil _, hb14⟩
      have h1 := Kd.R_lt HO13.out k hk
      have h2 := Kd.R_base HO14.out k he
      omega
    case round =>
      obtain ⟨x, rfl, A⟩ := hrel
      by_cases c2 : x < (l0.length : Int)
      · obtain ⟨h0, hxl, hgg, s, p, o, hbuild, hst⟩ := A.out
        obtain ⟨A3, c3, rfl, hc3, hC3⟩ := Tree.row_slice hst.r3
        obtain ⟨A4, c4, rfl, hc4, hC4⟩ := Tree.row_slice hst.r4
        have HST := Aside0.mk hst
        have HBU := Aside0.mk hbuild
        have HGG := Aside0.mk hgg
        have HC3 := Aside0.mk hC3
        have HCC3 := Aside0.mk hc3
        clear A hst hbuild hgg hxl hc3 hC3 hc4 hC4
        obtain ⟨ad, e1, hx0, hx1⟩ := at_T87 HR0.out x h0 c2
        cases e1
        replace hx0 := (HST.out.hb.cell (World.block_lt_of_cell? w _ hx0)).trans hx0
        replace hx1 := (HST.out.hb.cell (World.block_lt_of_cell? w _ hx1)).trans hx1
        have hN := fun W => numOKC (rd_T87 l0 x).f0 (rd_T87 l0 x).f1 W
        have hA := fun W => arityC (rd_T87 l0 x).f0 W
        have H0 := Aside0.mk h0
        have C2 := Aside0.mk c2
        replace h0 := eq_true h0
        replace c2 := eq_true c2
        cases hnum : Tree.numOK (rd_T87 l0 x).f0 (rd_T87 l0 x).f1 with
        | false =>
          rw [hnum] at hN
          have HNUM := Aside0.mk hnum
          clear hnum
          go_wp2_with (first | ((with_reducible refine gate_dst (N := 6) rfl ?_); refine box_event ?hg (N := 6) ?hd (cs := #[.int .i64 0, .int .i64 0]) (t := 87) ?hr ?_; (case hd => rfl); (case hg => rfl); (case hr => first | (go_simp; done) | (go_simp; rfl)); intro gb hg w6 hbox hb; have HBOX := Aside0.mk hbox; have HBB := Aside0.mk hb; have HGB := Aside0.mk hg; have hcz7_0 : w6.cell? ⟨gb, 0, none⟩ = some (.int .i64 0) := (blk_cell HBOX.out 0).trans rfl; have hcz7_1 : w6.cell? ⟨gb, 1, none⟩ = some (.int .i64 0) := (blk_cell HBOX.out 1).trans rfl; have hfz7_0 := blk_frozen HBOX.out 0; have hfz7_1 := blk_frozen HBOX.out 1; clear hbox hb hg) | (go_at_call 116; refine (hN _).mono ?_; rintro e w' ⟨rfl, ⟨q, rfl⟩⟩) | (go_at_call 108; refine (hA _).mono ?_; rintro e w' ⟨rfl, ⟨q', rfl⟩⟩))
          go_ret
          have hgb : wr.heap.size ≤ gb := Nat.le_of_eq HGB.out.symm
          refine ⟨.slice none 0 0, rfl, ⟨?_⟩, below_step HST.out.hb (by repeat (first | exact HBB.out | apply pw_below_drewN | refine below_set ?_ hgb))⟩
          rw [treesOf_none l0 (build_fail l0 x.toNat (by have := H0.out; have := C2.out; omega) HBU.out (if_neg ?_))]
          · rfl
          · rintro ⟨h1, -⟩; exact absurd (HNUM.out.symm.trans h1) (by simp)
        | true =>
          rw [hnum] at hN
          have HNUM := Aside0.mk hnum
          clear hnum
          by_cases har : (p.length : Int) < Tree.arity (rd_T87 l0 x).f0
          · have HAR := Aside0.mk har
            replace har := eq_true har
            go_wp2_with (first | ((with_reducible refine gate_dst (N := 6) rfl ?_); refine box_event ?hg (N := 6) ?hd (cs := #[.int .i64 0, .int .i64 0]) (t := 87) ?hr ?_; (case hd => rfl); (case hg => rfl); (case hr => first | (go_simp; done) | (go_simp; rfl)); intro gb hg w6 hbox hb; have HBOX := Aside0.mk hbox; have HBB := Aside0.mk hb; have HGB := Aside0.mk hg; have hcz7_0 : w6.cell? ⟨gb, 0, none⟩ = some (.int .i64 0) := (blk_cell HBOX.out 0).trans rfl; have hcz7_1 : w6.cell? ⟨gb, 1, none⟩ = some (.int .i64 0) := (blk_cell HBOX.out 1).trans rfl; have hfz7_0 := blk_frozen HBOX.out 0; have hfz7_1 := blk_frozen HBOX.out 1; clear hbox hb hg) | (go_at_call 116; refine (hN _).mono ?_; rintro e w' ⟨rfl, ⟨q, rfl⟩⟩) | (go_at_call 108; refine (hA _).mono ?_; rintro e w' ⟨rfl, ⟨q', rfl⟩⟩))
            go_ret
            have hgb : wr.heap.size ≤ gb := Nat.le_of_eq HGB.out.symm
            refine ⟨.slice none 0 0, rfl, ⟨?_⟩, below_step HST.out.hb (by repeat (first | exact HBB.out | apply pw_below_drewN | refine below_set ?_ hgb))⟩
            rw [treesOf_none l0 (build_fail l0 x.toNat (by have := H0.out; have := C2.out; omega) HBU.out (if_neg ?_))]
            · rfl
            · rintro ⟨-, h2⟩; have h3 := HAR.out; rw [HST.out.t3.1] at h3; exact absurd h2 (by show ¬ _; exact Int.not_le.2 h3)
          · have HAR := Aside0.mk har
            replace har := eq_false har
            go_wp2_with (first | ((with_reducible refine gate_dst (N := 6) rfl ?_); refine box_event ?hg (N := 6) ?hd (cs := #[.int .i64 0, .int .i64 0]) (t := 87) ?hr ?_; (case hd => rfl); (case hg => rfl); (case hr => first | (go_simp; done) | (go_simp; rfl)); intro gb hg w6 hbox hb; have HBOX := Aside0.mk hbox; have HBB := Aside0.mk hb; have HGB := Aside0.mk hg; have hcz7_0 : w6.cell? ⟨gb, 0, none⟩ = some (.int .i64 0) := (blk_cell HBOX.out 0).trans rfl; have hcz7_1 : w6.cell? ⟨gb, 1, none⟩ = some (.int .i64 0) := (blk_cell HBOX.out 1).trans rfl; have hfz7_0 := blk_frozen HBOX.out 0; have hfz7_1 := blk_frozen HBOX.out 1; clear hbox hb hg) | (go_at_call 116; refine (hN _).mono ?_; rintro e w' ⟨rfl, ⟨q, rfl⟩⟩) | (go_at_call 108; refine (hA _).mono ?_; rintro e w' ⟨rfl, ⟨q', rfl⟩⟩))
            rename_i qa K9 aK9
            have hm0 : 0 ≤ Tree.arity (rd_T87 l0 x).f0 := (Tree.arity_range _).1
            obtain ⟨m, hm⟩ : ∃ m : Nat, m = p.length - (Tree.arity (rd_T87 l0 x).f0).toNat := ⟨_, rfl⟩
            have hmle : m ≤ p.length := by omega
            have hwr : wrap64 ((p.length : Int) - Tree.arity (rd_T87 l0 x).f0) = (m : Int) := by
              have := HC3.out.2.1
              have := HAR.out
              unfold wrap64
              omega
            rw [hwr]
            have hgb : wr.heap.size ≤ gb := Nat.le_of_eq HGB.out.symm
            have hb10 : Below wr.heap.size wr (((w6.setCell ⟨gb, 0, none⟩ (.int .i64 (rd_T87 l0 x).f0)).setCell ⟨gb, 1, none⟩ (.int .i64 (rd_T87 l0 x).f1)).drewN (q + qa + q')) := pw_below_drewN (below_set (below_set HBB.out hgb) hgb) _
            have hlt : gb < w6.heap.size := World.block_lt_of_cell? w6 _ hcz7_0
            have hc10 : (((w6.setCell ⟨gb, 0, none⟩ (.int .i64 (rd_T87 l0 x).f0)).setCell ⟨gb, 1, none⟩ (.int .i64 (rd_T87 l0 x).f1)).drewN (q + qa + q')).cell? ⟨gb, 0, none⟩ = some (.int .i64 (rd_T87 l0 x).f0) := by go_simp
            have hc11 : (((w6.setCell ⟨gb, 0, none⟩ (.int .i64 (rd_T87 l0 x).f0)).setCell ⟨gb, 1, none⟩ (.int .i64 (rd_T87 l0 x).f1)).drewN (q + qa + q')).cell? ⟨gb, 1, none⟩ = some (.int .i64 (rd_T87 l0 x).f1) := by go_simp
            generalize (((w6.setCell ⟨gb, 0, none⟩ (.int .i64 (rd_T87 l0 x).f0)).setCell ⟨gb, 1, none⟩ (.int .i64 (rd_T87 l0 x).f1)).drewN (q + qa + q')) = W10 at hb10 hc10 hc11 ⊢
            have HST10 := Aside0.mk (HST.out.below hb10)
            have HB10 := Aside0.mk hb10
            clear hb10 HST hcz7_0 hcz7_1 hfz7_0 hfz7_1 hx0 hx1 hlt hgb
            have HM := Aside0.mk hm
            have HMLE := Aside0.mk hmle
            clear hm hmle hwr hm0
            have hs0 : (0 ≤ (m : Int)) = True := eq_true (by omega)
            have hs1 : ((m : Int) ≤ (p.length : Int)) = True := eq_true (by have := HMLE.out; omega)
            have hs2 : ((p.length : Int) ≤ (c3 : Int)) = True := eq_true (by have := HCC3.out; omega)
            have hlt10 : gb < W10.heap.size := World.block_lt_of_cell? W10 _ hc10
            have hclone : ∀ W, Below W10.heap.size W10 W → Calls Try.prog 117 #[.slice (if c3 = m then A3 else A3.map (fun x => x.add m)) (p.length - m) (c3 - m)] W fun e w' => ∃ (A5 : Option Addr) (c5 : Nat), e = .returned (.slice A5 (p.length - m) c5) ∧ Aside0 (Kd.R Tree.ptrK 91 w' W10.heap.size (fun _ => True) (.slice A5 (p.length - m) c5) (p.drop m)) ∧ w'.cell? ⟨gb, 0, none⟩ = some (.int .i64 (rd_T87 l0 x).f0) ∧ w'.cell? ⟨gb, 1, none⟩ = some (.int .i64 (rd_T87 l0 x).f1) ∧ Below W10.heap.size W10 w' := by
              intro W hW
              have hc := Kd.C_drop (Kd.C_below (Tree.row_C HST10.out.r3) hW) HMLE.out HCC3.out
              rw [show m * Tree.ptrK.sz = m from Nat.mul_one m] at hc
              have hl : (p.drop m).length = p.length - m := List.length_drop
              rw [← hl]
              refine (slices_Clone_ptr.calls _ _ _ _ hc (by rw [hl]; have := HCC3.out; omega) (by rw [hl]; have := HM.out; have := (Tree.arity_range (rd_T87 l0 x).f0).2; have := HAR.out; omega)).mono ?_
              rintro e w' ⟨v0, rfl, hR, hb⟩
              have hb' := below_step hW hb
              obtain ⟨A5, c5, rfl, -, -⟩ := Tree.row_slice hR
              rw [hl] at hR ⊢
              exact ⟨A5, c5, rfl, ⟨Kd.R_lower hR hW.size⟩, (hb'.cell hlt10).trans hc10, (hb'.cell hlt10).trans hc11, hb'⟩
            clear hlt10
            go_region_held3 (fun w' => w'.cell? ⟨gb, 0, none⟩ = some (.int .i64 (rd_T87 l0 x).f0) ∧ w'.cell? ⟨gb, 1, none⟩ = some (.int .i64 (rd_T87 l0 x).f1) ∧ Below W10.heap.size W10 w') (first | (refine ⟨?_, ?_, Below.drew (Below.refl _ _)⟩ <;> go_keep) | exact ⟨by assumption, by assumption, by assumption⟩ | (refine ⟨?_, ?_, ?_⟩ <;> first | (exact below_alloc (by assumption) _) | go_keep) | go_keep) ((go_at_call 117; refine (hclone _ (Below.drew (Below.refl _ _))).mono ?_; rintro e wc ⟨A5, c5, rfl, HRc, hcc0, hcc1, hBc⟩; (try dsimp only)))
            have hn := HST10.out.nodeT (op := (rd_T87 l0 x).f0) (n := (rd_T87 l0 x).f1) (W2 := wc.alloc (.cells #[.int .i64 (rd_T87 l0 x).f0, .int .i64 (rd_T87 l0 x).f1, .slice A5 (p.length - m) c5] 124)) (g := wc.heap.size) HRc.out hBc (below_alloc (Below.refl _ _) _) (by go_simp) (by go_simp) (by go_simp) hBc.size HMLE.out
            generalize wc.alloc (.cells #[.int .i64 (rd_T87 l0 x).f0, .int .i64 (rd_T87 l0 x).f1, .slice A5 (p.length - m) c5] 124) = W12 at hn ⊢
            generalize wc.heap.size = gm at hn ⊢
            generalize (if c3 = m then A3 else A3.map (fun x => x.add m)) = A47
            have HS12 := Aside0.mk hn.1
            have HT12 := Aside0.mk hn.2
            clear hn hc10 hc11 hcc0 hcc1 hBc hclone HRc
            have hs3 : ((m : Int) ≤ (c3 : Int)) = True := eq_true (by have := HMLE.out; have := HCC3.out; omega)
            have HBL := Aside0.mk (Tree.build_len _ _ _ HBU.out)
            have HPL := Aside0.mk HST10.out.t3.1
            have HOL := Aside0.mk HST10.out.t4.1
            have hX : x.toNat ≤ l0.length := by have := C2.out; omega
            have HX := Aside0.mk hX
            clear hX
            go_wp2_with (first | ((with_reducible refine gate_builtin (b := .append) (xs := #[.tmp 53, .tmp 55]) rfl ?_); at_builtin; refine Kd.R_append Tree.ptrK (w0 := w) w.heap.size rfl (.tmp 53) (.tmp 55) 95 91 (.pointer none) 8 rfl Try.underlying95 infoPtr rfl (by decide) (by omega) (.slice A3 m c3) (p.take m) ⟨gm, 0, none⟩ [.pointer (some ⟨gm, 0, none⟩)] (fun _ => True) (fun _ => False) rfl rfl ?aP (fun _ hk => hk.elim) ?aF ?aO ?aB ?aS ?aL ?_; (case aP => exact rfl); (case aF => exact (fun _ _ => trivial)); (case aO => exact HS12.out.r3); (case aB => exact HS12.out.hb); (case aS => exact HS12.out.hb.size); (case aL => have := HBL.out; have := HPL.out; have := HOL.out; have := HX.out; have := HLEN.out; have := HM.out; simp [toP] at *; omega); intro v31 w31 ho hb hg hat; have h31 := HS12.out.push3 HT12.out ho hg hat hb; have HS13 := Aside0.mk h31.1; have HT13 := Aside0.mk h31.2; clear ho hb hg hat h31) | ((with_reducible refine gate_builtin (b := .append) (xs := #[.tmp 57, .tmp 59]) rfl ?_); at_builtin; refine Kd.R_append Tree.ptrK (w0 := w) w.heap.size rfl (.tmp 57) (.tmp 59) 95 91 (.pointer none) 8 rfl Try.underlying95 infoPtr rfl (by decide) (by omega) (.slice A4 o.length c4) o ⟨gm, 0, none⟩ [.pointer (some ⟨gm, 0, none⟩)] (fun _ => True) (fun _ => False) rfl rfl ?aP (fun _ hk => hk.elim) ?aF ?aO ?aB ?aS ?aL ?_; (case aP => exact rfl); (case aF => exact (fun _ _ => trivial)); (case aO => exact HS13.out.r4); (case aB => exact HS13.out.hb); (case aS => exact HS13.out.hb.size); (case aL => have := HBL.out; have := HPL.out; have := HOL.out; have := HX.out; have := HLEN.out; have := HM.out; simp [toP] at *; omega); intro v41 w41 ho hb hg hat; have h41 := HS13.out.push4 HT13.out ho hg hat hb; have HS14 := Aside0.mk h41; clear ho hb hg hat h41))
            go_roundg (l0.length - (x.toNat + 1))
            case measure => have := HGG.out; have := C2.out; have := H0.out; omega
            case rel =>
              have e1 : wrap64 (x + 1) = x + 1 := by have := HLEN.out; have := C2.out; have := H0.out; unfold wrap64; omega
              have hx1' : (x + 1).toNat = x.toNat + 1 := by have := H0.out; omega
              refine ⟨x + 1, by rw [e1], ⟨by have := H0.out; omega, by have := C2.out; omega, by rw [hx1']; exact Nat.le_refl _, _, _, _, ?_, HS14.out⟩⟩
              rw [hx1', build_succ l0 x.toNat (by have := H0.out; have := C2.out; omega) HBU.out]
              unfold Tree.step
              have ha : Tree.arity (rd_T87 l0 x).f0 ≤ (s.1.length : Int) := by rw [← HPL.out]; exact HAR.out
              refine (if_pos ⟨HNUM.out, ha⟩).trans ?_
              rw [HM.out, HPL.out]
              rfl
      · obtain ⟨h0, hxl, hgg, s, p, o, hbuild, hst⟩ := A.out
        have hx : x = (l0.length : Int) := by omega
        subst hx
        obtain ⟨A3, c3, rfl, hc3, hC3⟩ := Tree.row_slice hst.r3
        have HST := Aside0.mk hst
        have hbl : Tree.build (toP l0) ([], []) = some s := by
          have : ((l0.length : Int)).toNat = l0.length := by omega
          rw [this, List.take_length] at hbuild
          exact hbuild
        have HBU := Aside0.mk hbl
        have HPL := Aside0.mk hst.t3.1
        clear A hst hbuild hgg hxl hc3 hC3 hbl
        by_cases hp : p.length = 1
        · have HP := Aside0.mk hp
          replace hp : (p.length : Int) = 1 := by omega
          go_wp2
          go_ret
          refine ⟨_, rfl, ⟨?_⟩, HST.out.hb⟩
          unfold Tree.treesOf
          rw [if_pos (by rw [toP_len]; have := HLEN.out; omega), HBU.out]
          show TreesRes _ _ (if s.1.length = 1 then some s.2 else none) _
          rw [if_pos (by rw [← HPL.out]; exact HP.out)]
          refine ⟨o, ?_, HST.out.r4, HST.out.t4.imp (fun k hk => ⟨hk.1, hk.2.2⟩)⟩
          rw [(Tree.build_len _ _ _ HBU.out).2, toP_len]
          have := HLEN.out
          simp
          omega
        · have HP := Aside0.mk hp
          have hp1 : ((p.length : Int) != 1) = true := by rw [bne_iff_ne]; omega
          clear hp
          go_wp2
          go_ret
          refine ⟨.slice none 0 0, rfl, ⟨?_⟩, HST.out.hb⟩
          unfold Tree.treesOf
          rw [if_pos (by rw [toP_len]; have := HLEN.out; omega), HBU.out]
          show TreesRes _ _ (if s.1.length = 1 then some s.2 else none) _
          rw [if_neg (by rw [← HPL.out]; exact HP.out)]
          rfl
  · have hW := fun W => withinC (l0.length : Int) 1 40 W
    rw [decide_eq_false hlen] at hW
    have HLEN := Aside0.mk hlen
    clear hlen
    go_enter Try.func83, Try.ntmps83
    go_wp2_with (go_at_call 84; refine (hW _).mono ?_; rintro e w' ⟨rfl, ⟨q, rfl⟩⟩)
    go_ret
    refine ⟨.slice none 0 0, rfl, ⟨?_⟩, by repeat (first | (with_reducible first | exact HB.out | apply below_alloc | apply pw_below_drewN | apply below_drew1) | exact HB.out)⟩
    unfold Tree.treesOf
    rw [if_neg (by have := HLEN.out; simp [toP]; omega)]
    rfl

/-! ### impl.treeOf: function 78, by hand -/
/-- What treeOf hands back. -/
def TreeRes (w w' : World) (r : Option Tree.Tr) (v : Value) : Prop :=
  match r with
  | none => v = .pointer none
  | some T => ∃ a : Addr, v = .pointer (some a) ∧ Tree.Tree w' (fun k => w.heap.size ≤ k) T a
set_option maxHeartbeats 8000000 in
set_option maxRecDepth 100000 in
theorem impl_treeOf.calls (A0 : Option Addr) (c0 : Nat) (l0 : List S87) (w : World) (hr0 : Kd.C k87 w A0 l0.length l0) (hc0 : l0.length ≤ c0) :
    Calls Try.prog 78 #[.slice A0 l0.length c0] w fun e w' => ∃ v : Value, e = .returned v ∧ Aside0 (TreeRes w w' (Tree.treeOf (toP l0)) v) ∧ Below w.heap.size w w' := by
  have HT := Aside0.mk (impl_trees.calls A0 c0 l0 w hr0 hc0)
  clear hr0 hc0
  unfold Tree.treeOf
  cases hT : Tree.treesOf (toP l0) with
  | none =>
    rw [hT] at HT
    clear hT
    have hnil := fun W => Lib.run_eql_slice_nil (P := Try.prog) W 95 91 none 0 0 0 0 Try.underlying95
    go_enter Try.func78, Try.ntmps78
    go_wp2_with (go_at_call 83; refine HT.out.mono ?_; rintro e w' ⟨v, rfl, hR, hb⟩; obtain rfl := hR.out; have HB := Aside0.mk hb; clear hR hb)
    go_ret
    exact ⟨_, rfl, ⟨rfl⟩, HB.out⟩
  | some Ts =>
    rw [hT] at HT
    clear hT
    have HT2 : Aside0 (Calls Try.prog 83 #[.slice A0 l0.length c0] w fun e w' => ∃ (ad : Addr) (n c : Nat) (a : Addr), e = .returned (.slice (some ad) n c) ∧ 0 < n ∧ w'.cell? (ad.add (n - 1)) = some (.pointer (some a)) ∧ Aside0 (n ≤ 9223372036854775807) ∧ Aside0 (∃ T, Ts.getLast? = some T ∧ Tree.Tree w' (fun k => w.heap.size ≤ k) T a) ∧ Aside0 (Below w.heap.size w w')) := by
      refine ⟨HT.out.mono ?_⟩
      rintro e w' ⟨v, rfl, hR, hb⟩
      obtain ⟨az, hpos, hRR, hTs⟩ := hR.out
      obtain ⟨A, c, rfl, hc, hC⟩ := Tree.row_slice hRR
      have hl : az.length = Ts.length := hTs.1
      obtain ⟨ad, rfl, hcell⟩ := Tree.ptr_at hC (az.length - 1) (by omega)
      refine ⟨ad, az.length, c, _, rfl, by omega, hcell, ⟨hC.2.1⟩, ⟨Ts[Ts.length - 1], ?_, ?_⟩, ⟨hb⟩⟩
      · rw [List.getLast?_eq_getElem?, List.getElem?_eq_getElem (by omega)]
      · rw [hl]
        exact (hTs.2 (Ts.length - 1) (by omega)).imp (fun k hk => hk.1)
    clear HT
    have hnil := fun W ad n c => Lib.run_eql_slice_nil (P := Try.prog) W 95 91 (some ad) n c 0 0 Try.underlying95
    go_enter Try.func78, Try.ntmps78
    go_wp2_with (go_at_call 83; refine HT2.out.mono ?_; rintro e w' ⟨ad, n, c, a, rfl, hn, hcell, HN, HTT, HB⟩; have hw : wrap64 ((n : Int) - 1) = ((n - 1 : Nat) : Int) := (by have := HN.out; unfold wrap64; omega); have hi0 : (0 ≤ ((n - 1 : Nat) : Int)) = True := eq_true (by omega); have hi1 : (((n - 1 : Nat) : Int) < (n : Int)) = True := eq_true (by omega); have hn' := Aside0.mk hn; clear hn)
    go_ret
    obtain ⟨T, e1, e2⟩ := HTT.out
    refine ⟨_, rfl, ⟨?_⟩, HB.out⟩
    show TreeRes _ _ Ts.getLast? _
    rw [e1]
    exact ⟨a, rfl, e2⟩

/-! ### impl.GoodTerm: function 23, by hand -/
set_option maxHeartbeats 8000000 in
set_option maxRecDepth 100000 in
theorem impl_GoodTerm.told (A0 : Option Addr) (c0 : Nat) (l0 : List S87) (w : World) (hr0 : Kd.C k87 w A0 l0.length l0) (hc0 : l0.length ≤ c0) :
    Calls Try.prog 23 #[.slice A0 l0.length c0] w fun e w' => e = .returned (.bool (Tree.treeOf (toP l0)).isSome) ∧ Below w.heap.size w w' := by
  have HT := Aside0.mk (impl_treeOf.calls A0 c0 l0 w hr0 hc0)
  clear hr0 hc0
  cases hT : Tree.treeOf (toP l0) with
  | none =>
    rw [hT] at HT
    clear hT
    go_enter Try.func23, Try.ntmps23
    go_wp2_with (go_at_call 78; refine HT.out.mono ?_; rintro e w' ⟨v, rfl, hR, hb⟩; obtain rfl := hR.out; have HB := Aside0.mk hb; clear hR hb)
    go_ret
    exact ⟨rfl, HB.out⟩
  | some T =>
    rw [hT] at HT
    clear hT
    go_enter Try.func23, Try.ntmps23
    go_wp2_with (go_at_call 78; refine HT.out.mono ?_; rintro e w' ⟨v, rfl, hR, hb⟩; obtain ⟨a, rfl, -⟩ := hR.out; have HB := Aside0.mk hb; clear hR hb)
    go_ret
    exact ⟨rfl, HB.out⟩
def impl_GoodTerm.f (l0 : List S87) : Option Bool := some (Tree.treeOf (toP l0)).isSome
theorem impl_GoodTerm.calls (A0 : Option Addr) (c0 : Nat) (l0 : List S87) (r : Bool) (w : World) (hr0 : Kd.C k87 w A0 l0.length l0) (hc0 : l0.length ≤ c0) (h : impl_GoodTerm.f l0 = some r) :
    Calls Try.prog 23 #[.slice A0 l0.length c0] w fun e w' => e = .returned (.bool r) ∧ Below w.heap.size w w' := by
  injection h with h
  subst h
  exact impl_GoodTerm.told A0 c0 l0 w hr0 hc0

/-! ### impl.goodList: function 101, by hand -/
/-- What goodList answers. -/
def goodF (l : List S87) : List S87 × Bool := if (Tree.treeOf (toP l)).isSome = true then (l, true) else ([], false)
set_option maxHeartbeats 8000000 in
set_option maxRecDepth 100000 in
theorem goodList_calls (A0 : Option Addr) (c0 : Nat) (l0 : List S87) (w : World) (hr0 : Kd.C k87 w A0 l0.length l0) (hc0 : l0.length ≤ c0) :
    Calls Try.prog 101 #[.slice A0 l0.length c0] w fun e w' => e = .returned (.tuple #[if (Tree.treeOf (toP l0)).isSome = true then .slice A0 l0.length c0 else .slice none 0 0, .bool (Tree.treeOf (toP l0)).isSome]) ∧ Below w.heap.size w w' := by
  have HG := Aside0.mk (impl_GoodTerm.told A0 c0 l0 w hr0 hc0)
  clear hr0 hc0
  generalize (Tree.treeOf (toP l0)).isSome = b at HG ⊢
  cases b with
  | true =>
    rw [if_pos rfl]
    go_enter Try.func101, Try.ntmps101
    go_wp2_with (go_at_call 23; (with_reducible refine HG.out.mono ?_); rintro e w' ⟨rfl, hb⟩; have HB := Aside0.mk hb; clear hb)
    go_ret2
    exact ⟨rfl, HB.out⟩
  | false =>
    rw [if_neg (by simp)]
    go_enter Try.func101, Try.ntmps101
    go_wp2_with (go_at_call 23; (with_reducible refine HG.out.mono ?_); rintro e w' ⟨rfl, hb⟩; have HB := Aside0.mk hb; clear hb)
    go_ret2
    exact ⟨rfl, HB.out⟩
/-- The same, behind a row of one's own. -/
theorem goodList_row (v : Value) (l : List S87) (b0 : Nat) (w W : World) (hR : Kd.R k87 87 W w.heap.size (fun _ => True) v l) (hW : Below w.heap.size w W) :
    Calls Try.prog 101 #[v] W fun e w' => ∃ v0 : Value, e = .returned (.tuple #[v0, .bool (goodF l).2]) ∧ Kd.R k87 87 w' w.heap.size (fun _ => True) v0 (goodF l).1 ∧ Below w.heap.size w w' := by
  obtain ⟨A, c, rfl, hc, hC⟩ := Kd.R_reads hR
  refine (goodList_calls A c l W hC hc).mono ?_
  rintro e w' ⟨rfl, hb⟩
  have hR' := Kd.R_below hR hb
  unfold goodF
  cases h : (Tree.treeOf (toP l)).isSome with
  | true => exact ⟨_, rfl, by simpa using hR', below_step hW hb⟩
  | false => exact ⟨_, rfl, by simpa using Kd.R_nil _ _ _ _ _, below_step hW hb⟩
def impl_goodList.f (l0 : List S87) : Option (List S87 × Bool) := some (goodF l0)
theorem impl_goodList.calls (P0_ : Nat → Prop) (u9000_ : Value) (l0 : List S87) (r1 : List S87) (r2 : Bool) (w0 w : World) (hB : Below w0.heap.size w0 w) (ho0 : Kd.R k87 87 w w0.heap.size P0_ u9000_ l0) (h : impl_goodList.f l0 = some (r1, r2)) :
    Calls Try.prog 101 #[u9000_] w fun e w' => ∃ v0_ : Value, e = .returned (.tuple #[v0_, .bool r2]) ∧ Kd.R k87 87 w' w0.heap.size (fun k_ => (P0_ k_ ∨ w.heap.size ≤ k_)) v0_ r1 ∧ Below w0.heap.size w0 w' ∧ Kept w w' (fun k_ => P0_ k_) := by
  obtain ⟨A, c, rfl, hc, hC⟩ := Kd.R_reads ho0
  refine (goodList_calls A c l0 w hC hc).mono ?_
  rintro e w' ⟨rfl, hb⟩
  have hR' := Kd.R_mono (ok' := fun k_ => (P0_ k_ ∨ w.heap.size ≤ k_)) (Kd.R_below ho0 hb) (fun k hk => .inl hk)
  unfold impl_goodList.f goodF at h
  cases hg : (Tree.treeOf (toP l0)).isSome with
  | true =>
    rw [hg, if_pos rfl] at h
    obtain ⟨rfl, rfl⟩ := Prod.mk.inj (Option.some.inj h)
    exact ⟨_, rfl, by simpa using hR', below_step hB hb, Kept.of_below hb _⟩
  | false =>
    rw [hg, if_neg (by simp)] at h
    obtain ⟨rfl, rfl⟩ := Prod.mk.inj (Option.some.inj h)
    exact ⟨_, rfl, by simpa using Kd.R_nil _ _ _ _ _, below_step hB hb, Kept.of_below hb _⟩

end Go.Proofs.Ytlneknaiimmfmaa.PFnExactTermOf
