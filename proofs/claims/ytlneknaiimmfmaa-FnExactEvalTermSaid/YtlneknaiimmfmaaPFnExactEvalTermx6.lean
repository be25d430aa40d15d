/- Functions of the program and of the reference as plain Lean functions, and what their calls come to; partly printed by a program, partly by hand; no condition beyond what each theorem says. -/
import Derived.Test.YtlneknaiimmfmaaPFnExactEvalTermx0
import Derived.Test.YtlneknaiimmfmaaPFnExactEvalTermx1
import Derived.Test.YtlneknaiimmfmaaPFnExactEvalTermx4
import Derived.Test.YtlneknaiimmfmaaPFnExactEvalTermx5
namespace Go.Proofs.Ytlneknaiimmfmaa.PFnExactEvalTerm
open Go.RowKit Go.Proofs.YtlneknaiimmfmaaW.PrintWords Go.Proofs.YtlneknaiimmfmaaW.PrintLast Go.Proofs.YtlneknaiimmfmaaW.PrintMore
attribute [local go_sem] max2_int min2_int max_two min_two max_three min_three max_four min_four   -- for this text's walks alone
set_option linter.unusedVariables false
set_option linter.unusedSimpArgs false

/-! ### (*impl.tree).eval: function 113, by hand -/
theorem doOp_some (a : Int) (l : List Int) (n : Int) (hn : (l.length : Int) = n) (h : (a = 3 ∧ n = 1) ∨ (a = 11 ∧ n = 3) ∨ (4 ≤ a ∧ a ≤ 10 ∧ n = 2)) : ∃ p, impl_doOp.f a l = some p := by
  rcases h with ⟨rfl, rfl⟩ | ⟨rfl, rfl⟩ | ⟨h4, h10, rfl⟩
  · unfold impl_doOp.f
    rw [if_pos rfl, if_pos (by omega)]; exact ⟨_, rfl⟩
  · unfold impl_doOp.f
    simp only [if_neg (show ¬ (11 : Int) = 3 by omega), if_neg (show ¬ (11 : Int) = 4 by omega), if_neg (show ¬ (11 : Int) = 5 by omega), if_neg (show ¬ (11 : Int) = 6 by omega), if_neg (show ¬ (11 : Int) = 7 by omega), if_neg (show ¬ (11 : Int) = 8 by omega), if_neg (show ¬ (11 : Int) = 9 by omega), if_neg (show ¬ (11 : Int) = 10 by omega)]
    rw [if_pos (by omega)]
    split
    · rw [if_pos (by omega)]; exact ⟨_, rfl⟩
    · rw [if_pos (by omega)]; exact ⟨_, rfl⟩
  · have c0 : 0 < (l.length : Int) := by omega
    have c1 : 1 < (l.length : Int) := by omega
    have : a = 4 ∨ a = 5 ∨ a = 6 ∨ a = 7 ∨ a = 8 ∨ a = 9 ∨ a = 10 := by omega
    unfold impl_doOp.f impl_oneIf.f
    simp only [if_pos c0, if_pos c1]
    have t0 : 0 ≤ Int.tmod (IntKind.u64.wrap (rd l 1)) 64 := by
      have : 0 ≤ IntKind.u64.wrap (rd l 1) := by simp [IntKind.wrap, IntKind.bits, IntKind.signed]; omega
      exact Int.tmod_nonneg _ this
    rw [if_pos t0]
    rcases this with rfl | rfl | rfl | rfl | rfl | rfl | rfl
    · exact ⟨_, rfl⟩
    · exact ⟨_, rfl⟩
    · exact ⟨_, rfl⟩
    · exact ⟨_, rfl⟩
    · simp only [if_neg (show ¬ (8 : Int) = 3 by omega), if_neg (show ¬ (8 : Int) = 4 by omega), if_neg (show ¬ (8 : Int) = 5 by omega), if_neg (show ¬ (8 : Int) = 6 by omega), if_neg (show ¬ (8 : Int) = 7 by omega), if_pos]
      split <;> exact ⟨_, rfl⟩
    · simp only [if_neg (show ¬ (9 : Int) = 3 by omega), if_neg (show ¬ (9 : Int) = 4 by omega), if_neg (show ¬ (9 : Int) = 5 by omega), if_neg (show ¬ (9 : Int) = 6 by omega), if_neg (show ¬ (9 : Int) = 7 by omega), if_neg (show ¬ (9 : Int) = 8 by omega), if_pos]
      split <;> exact ⟨_, rfl⟩
    · simp only [if_neg (show ¬ (10 : Int) = 3 by omega), if_neg (show ¬ (10 : Int) = 4 by omega), if_neg (show ¬ (10 : Int) = 5 by omega), if_neg (show ¬ (10 : Int) = 6 by omega), if_neg (show ¬ (10 : Int) = 7 by omega), if_neg (show ¬ (10 : Int) = 8 by omega), if_neg (show ¬ (10 : Int) = 9 by omega), if_pos]
      split <;> exact ⟨_, rfl⟩
/-- What eval says of a tree. -/
def EvalSays (d : Nat) : Prop := ∀ (T : Tree.Tr) (a : Addr) (ok : Nat → Prop) (E : Option Addr) (c : Nat) (env : List Int) (w : World), Tree.TreeAt w ok d T a → Tree.Good T → Kd.C (Kd.int .i64) w E env.length env → env.length = 4 → env.length ≤ c →
    Calls Try.prog 113 #[.pointer (some a), .slice E env.length c] w fun e w' => e = .returned (.tuple #[.int .i64 (T.ev impl_doOp.f env).1, .bool (T.ev impl_doOp.f env).2]) ∧ Below w.heap.size w w'
set_option maxHeartbeats 8000000 in
set_option maxRecDepth 100000 in
theorem eval_num {d : Nat} (T : Tree.Tr) (a : Addr) (ok : Nat → Prop) (E : Option Addr) (c : Nat) (env : List Int) (w : World) (h : Tree.TreeAt w ok (d + 1) T a) (e : T.op = 1) :
    Calls Try.prog 113 #[.pointer (some a), .slice E env.length c] w fun e w' => e = .returned (.tuple #[.int .i64 (T.ev impl_doOp.f env).1, .bool (T.ev impl_doOp.f env).2]) ∧ Below w.heap.size w w' := by
  obtain ⟨g, A, cc, az, rfl, h1, h2, -⟩ := h
  have hres : T.ev impl_doOp.f env = (T.n, false) := by rw [Tree.ev_eq, e]; rfl
  rw [hres]
  rw [e] at h1
  clear e hres
  go_enter Try.func113, Try.ntmps113
  go_wp2
  go_ret2
  exact ⟨rfl, Below.refl _ _⟩
set_option maxHeartbeats 8000000 in
set_option maxRecDepth 100000 in
theorem eval_var {d : Nat} (T : Tree.Tr) (a : Addr) (ok : Nat → Prop) (E : Option Addr) (c : Nat) (env : List Int) (w : World) (h : Tree.TreeAt w ok (d + 1) T a) (hg : Tree.Good T) (hE : Kd.C (Kd.int .i64) w E env.length env) (h4 : env.length = 4) (hc : env.length ≤ c) (e : T.op = 2) :
    Calls Try.prog 113 #[.pointer (some a), .slice E env.length c] w fun e w' => e = .returned (.tuple #[.int .i64 (T.ev impl_doOp.f env).1, .bool (T.ev impl_doOp.f env).2]) ∧ Below w.heap.size w w' := by
  obtain ⟨g, A, cc, az, rfl, h1, h2, -⟩ := h
  have hres : T.ev impl_doOp.f env = (rd env T.n, false) := by rw [Tree.ev_eq, e]; rfl
  rw [hres]
  have hn := hg.num
  rw [e] at hn h1
  have hn : 0 ≤ T.n ∧ T.n < 4 := by
    unfold Tree.numOK at hn
    rw [if_neg (by omega), if_pos rfl] at hn
    exact of_decide_eq_true hn
  obtain ⟨p1, p2⟩ := hn
  have p3 : T.n < (env.length : Int) := by omega
  obtain ⟨ad, e1, hx⟩ := Kd.at_int hE T.n p1 p3
  cases e1
  generalize rd env T.n = y at hx
  generalize T.n = n at p1 p3 h2 hx
  replace p1 := eq_true p1
  replace p3 := eq_true p3
  clear e hres p2 h4 hc hE hg
  go_enter Try.func113, Try.ntmps113
  go_wp2
  go_ret2
  exact ⟨rfl, Below.refl _ _⟩
set_option maxHeartbeats 8000000 in
set_option maxRecDepth 100000 in
theorem eval_if {d : Nat} (ih : EvalSays d) (T : Tree.Tr) (a : Addr) (ok : Nat → Prop) (E : Option Addr) (c : Nat) (env : List Int) (w : World) (h : Tree.TreeAt w ok (d + 1) T a) (hg : Tree.Good T) (hE : Kd.C (Kd.int .i64) w E env.length env) (h4 : env.length = 4) (hc : env.length ≤ c) (e : T.op = 11) :
    Calls Try.prog 113 #[.pointer (some a), .slice E env.length c] w fun e w' => e = .returned (.tuple #[.int .i64 (T.ev impl_doOp.f env).1, .bool (T.ev impl_doOp.f env).2]) ∧ Below w.heap.size w w' := by
  obtain ⟨g, A, cc, az, rfl, h1, h2, h3, h5, h6, h7, h8, -⟩ := h
  have har := hg.arity
  rw [e] at har h1
  have hl : T.kids.length = 3 := by have : Tree.arity 11 = 3 := rfl; omega
  match hk : T.kids, hl with
  | [K0, K1, K2], _ =>
    have hres : T.ev impl_doOp.f env = if (K0.ev impl_doOp.f env).2 = true then (0, true) else if (K0.ev impl_doOp.f env).1 = 0 then K2.ev impl_doOp.f env else K1.ev impl_doOp.f env := by rw [Tree.ev_eq, e, hk]; rfl
    rw [hres]
    rw [hk] at h3 h5 h6 h7
    have hk' := hk
    obtain ⟨ad, e0, x0⟩ := Tree.ptr_at h7 0 (by simp)
    cases e0
    obtain ⟨ad', e1, x1⟩ := Tree.ptr_at h7 1 (by simp)
    cases e1
    obtain ⟨ad', e2, x2⟩ := Tree.ptr_at h7 2 (by simp)
    cases e2
    have t0 := h8 0 (by rw [hk]; simp)
    have t1 := h8 1 (by rw [hk]; simp)
    have t2 := h8 2 (by rw [hk]; simp)
    have g0 : Tree.Good K0 := hg.kids K0 (by rw [hk]; simp)
    have g1 : Tree.Good K1 := hg.kids K1 (by rw [hk]; simp)
    have g2 : Tree.Good K2 := hg.kids K2 (by rw [hk]; simp)
    simp only [hk, List.getElem_cons_zero, List.getElem_cons_succ] at t0 t1 t2
    rw [Tree.add_zero] at x0
    rw [Tree.add_lit ad 1 (by omega)] at x1
    rw [Tree.add_lit ad 2 (by omega)] at x2
    generalize az.getD 0 Tree.nowhere = a0 at x0 t0
    generalize az.getD 1 Tree.nowhere = a1 at x1 t1
    generalize az.getD 2 Tree.nowhere = a2 at x2 t2
    have c0 := Aside0.mk (ih K0 a0 ok E c env w t0 g0 hE h4 hc)
    have c1 : Aside0 (∀ W, Below w.heap.size w W → Calls Try.prog 113 #[.pointer (some a1), .slice E env.length c] W fun e w' => e = .returned (.tuple #[.int .i64 (K1.ev impl_doOp.f env).1, .bool (K1.ev impl_doOp.f env).2]) ∧ Below w.heap.size w w') :=
      ⟨fun W hW => (ih K1 a1 ok E c env W (t1.below hW) g1 (Kd.C_below hE hW) h4 hc).mono fun e w' ⟨h, k⟩ => ⟨h, below_step hW k⟩⟩
    have c2 : Aside0 (∀ W, Below w.heap.size w W → Calls Try.prog 113 #[.pointer (some a2), .slice E env.length c] W fun e w' => e = .returned (.tuple #[.int .i64 (K2.ev impl_doOp.f env).1, .bool (K2.ev impl_doOp.f env).2]) ∧ Below w.heap.size w w') :=
      ⟨fun W hW => (ih K2 a2 ok E c env W (t2.below hW) g2 (Kd.C_below hE hW) h4 hc).mono fun e w' ⟨h, k⟩ => ⟨h, below_step hW k⟩⟩
    generalize K0.ev impl_doOp.f env = r0 at c0 ⊢
    generalize K1.ev impl_doOp.f env = r1 at c1 ⊢
    generalize K2.ev impl_doOp.f env = r2 at c2 ⊢
    obtain ⟨n0, b0⟩ := r0
    clear t0 t1 t2 g0 g1 g2 hk hk' h8 h7 h6 h5 hres har hg hE ih e h4 hc hl
    simp only at c0 ⊢
    have hlen : ([K0, K1, K2] : List Tree.Tr).length = 3 := rfl
    rw [hlen] at h3
    clear hlen
    have X0 := Aside0.mk x0
    have X1 := Aside0.mk x1
    have X2 := Aside0.mk x2
    have X3 := Aside0.mk h3
    cases b0 with
    | true =>
      rw [if_pos rfl]
      go_enter Try.func113, Try.ntmps113
      go_wp2_with (go_at_call 113; refine c0.out.mono ?_; rintro e w1 ⟨rfl, hb⟩; have HB := Aside0.mk hb; clear hb)
      go_ret2
      exact ⟨rfl, HB.out⟩
    | false =>
      rw [if_neg (by simp)]
      by_cases hz : n0 = 0
      · rw [if_pos hz]
        have z1 : (n0 != 0) = false := by simp [hz]
        have z2 : (n0 == 0) = true := by simp [hz]
        clear hz
        go_enter Try.func113, Try.ntmps113
        go_wp2_with (first | (go_at_call 113; (with_reducible refine c0.out.mono ?_); rintro e w1 ⟨rfl, hb⟩; have HB := Aside0.mk hb; have y0 := pw_cell_below hb X3.out; have y1 := pw_cell_below hb X2.out; clear hb) | (go_at_call 113; (with_reducible refine (c2.out _ HB.out).mono ?_); rintro e w2 ⟨rfl, hb⟩; have HB2 := Aside0.mk hb; clear hb))
        go_ret2
        exact ⟨rfl, HB2.out⟩
      · rw [if_neg hz]
        have z1 : (n0 != 0) = true := by simp [hz]
        have z2 : (n0 == 0) = false := by simp [hz]
        clear hz
        go_enter Try.func113, Try.ntmps113
        go_wp2_with (first | (go_at_call 113; (with_reducible refine c0.out.mono ?_); rintro e w1 ⟨rfl, hb⟩; have HB := Aside0.mk hb; have y0 := pw_cell_below hb X3.out; have y1 := pw_cell_below hb X1.out; clear hb) | (go_at_call 113; (with_reducible refine (c1.out _ HB.out).mono ?_); rintro e w2 ⟨rfl, hb⟩; have HB2 := Aside0.mk hb; clear hb))
        go_ret2
        exact ⟨rfl, HB2.out⟩
theorem cur_set (vals : List Int) (i : Nat) (h : i < vals.length) : (vals.take i ++ List.replicate (vals.length - i) 0).set i (vals.getD i 0) = vals.take (i + 1) ++ List.replicate (vals.length - (i + 1)) 0 := by
  have hl : (vals.take i).length = i := by rw [List.length_take]; omega
  rw [List.set_append_right _ _ (by omega), hl, Nat.sub_self]
  obtain ⟨m, hm⟩ : ∃ m, vals.length - i = m + 1 := ⟨vals.length - i - 1, by omega⟩
  rw [hm, show vals.length - (i + 1) = m by omega, List.replicate_succ, List.set_cons_zero, List.take_succ_eq_append_getElem h, List.append_assoc]
  rw [List.getD_eq_getElem?_getD, List.getElem?_eq_getElem h]
  rfl
theorem cur_len (vals : List Int) (i : Nat) (h : i ≤ vals.length) : (vals.take i ++ List.replicate (vals.length - i) 0).length = vals.length := by
  rw [List.length_append, List.length_take, List.length_replicate]; omega
set_option maxHeartbeats 8000000 in
set_option maxRecDepth 100000 in
theorem eval_gen {d : Nat} (ih : EvalSays d) (T : Tree.Tr) (a : Addr) (ok : Nat → Prop) (E : Option Addr) (c : Nat) (env : List Int) (w : World) (h : Tree.TreeAt w ok (d + 1) T a) (hg : Tree.Good T) (hE : Kd.C (Kd.int .i64) w E env.length env) (h4 : env.length = 4) (hc : env.length ≤ c) (e1 : 3 ≤ T.op) (e2 : T.op ≤ 10) :
    Calls Try.prog 113 #[.pointer (some a), .slice E env.length c] w fun e w' => e = .returned (.tuple #[.int .i64 (T.ev impl_doOp.f env).1, .bool (T.ev impl_doOp.f env).2]) ∧ Below w.heap.size w w' := by
  obtain ⟨g, A, cc, az, rfl, h1, h2, h3, h5, h6, h7, h8, -⟩ := h
  have har := hg.arity
  have hl : (T.op = 3 ∧ (T.kids.length : Int) = 1) ∨ (T.op = 11 ∧ (T.kids.length : Int) = 3) ∨ (4 ≤ T.op ∧ T.op ≤ 10 ∧ (T.kids.length : Int) = 2) := by
    by_cases e3 : T.op = 3
    · rw [e3] at har; exact .inl ⟨e3, by rw [har]; rfl⟩
    · refine .inr (.inr ⟨by omega, e2, ?_⟩)
      rw [har]
      unfold Tree.arity
      rw [if_neg (by omega), if_neg e3, if_neg (by omega)]
  obtain ⟨rs, hrs⟩ : ∃ rs, rs = T.kids.map fun k => k.ev impl_doOp.f env := ⟨_, rfl⟩
  obtain ⟨vals, hvals⟩ : ∃ vals, vals = rs.map (·.1) := ⟨_, rfl⟩
  have hvl : vals.length = T.kids.length := by rw [hvals, hrs, List.length_map, List.length_map]
  obtain ⟨p, hp⟩ := doOp_some T.op vals (T.kids.length : Int) (by rw [hvl]) hl
  have hres : T.ev impl_doOp.f env = if rs.any (·.2) = true then (0, true) else p := by
    rw [Tree.ev_eq, ← hrs]
    unfold Tree.comb
    rw [if_neg (by omega), if_neg (by omega), if_neg (by omega), ← hvals, hp]
    rfl
  have hcont : ∀ i (hi : i < T.kids.length), vals.getD i 0 = (T.kids[i].ev impl_doOp.f env).1 ∧ (rs.any (·.2) = false → (T.kids[i].ev impl_doOp.f env).2 = false) ∧ ((T.kids[i].ev impl_doOp.f env).2 = true → rs.any (·.2) = true) := by
    intro i hi
    have hm : (T.kids[i].ev impl_doOp.f env) ∈ rs := by rw [hrs]; exact List.mem_map.2 ⟨_, List.getElem_mem hi, rfl⟩
    refine ⟨?_, fun h => ?_, fun h => List.any_eq_true.2 ⟨_, hm, h⟩⟩
    · rw [hvals, hrs, List.getD_eq_getElem?_getD, List.getElem?_map, List.getElem?_map, List.getElem?_eq_getElem hi]; rfl
    · have := List.any_eq_false.1 h _ hm
      simpa using this
  have hnone : (∀ i, i < T.kids.length → ((T.kids.getD i (.mk 0 0 [])).ev impl_doOp.f env).2 = false) → rs.any (·.2) = false := by
    intro h
    rw [List.any_eq_false]
    intro x hx
    rw [hrs] at hx
    obtain ⟨K, hK, rfl⟩ := List.mem_map.1 hx
    obtain ⟨i, hi, rfl⟩ := List.getElem_of_mem hK
    have := h i hi
    rw [List.getD_eq_getElem?_getD, List.getElem?_eq_getElem hi] at this
    simpa using this
  have HRES0 := hres
  generalize T.ev impl_doOp.f env = r at HRES0 ⊢
  obtain ⟨r1, r2⟩ := r
  have hdo : Aside0 (∀ (W : World) (B co : Nat), T.kids.length ≤ co → Kd.C (Kd.int .i64) W (some ⟨B, 0, none⟩) T.kids.length vals → Calls Try.prog 142 #[.int .i64 T.op, .slice (some ⟨B, 0, none⟩) T.kids.length co] W fun e w' => e = .returned (.tuple #[.int .i64 p.1, .bool p.2]) ∧ Drawn0 W w') := by
    refine ⟨fun W B co hco hC => ?_⟩
    rw [← hvl] at hC hco ⊢
    exact impl_doOp.calls T.op _ co vals p.1 p.2 W hC hco hp
  have HRES := Aside0.mk HRES0
  clear HRES0
  have HCONT := Aside0.mk hcont
  have HNONE := Aside0.mk hnone
  have HVL := Aside0.mk hvl
  have HIH : Aside0 (∀ i (hi : i < T.kids.length) (W : World), Below w.heap.size w W → Calls Try.prog 113 #[.pointer (some (az.getD i Tree.nowhere)), .slice E env.length c] W fun e w' => e = .returned (.tuple #[.int .i64 (T.kids[i].ev impl_doOp.f env).1, .bool (T.kids[i].ev impl_doOp.f env).2]) ∧ Below W.heap.size W w') :=
    ⟨fun i hi W hW => ih T.kids[i] (az.getD i Tree.nowhere) ok E c env W ((h8 i hi).below hW) (hg.kids _ (List.getElem_mem hi)) (Kd.C_below hE hW) h4 hc⟩
  have H7 := Aside0.mk h7
  have HLN : Aside0 (1 ≤ T.kids.length ∧ T.kids.length ≤ 3) := ⟨by omega⟩
  have g1 : (T.op == 1) = false := by rw [beq_eq_false_iff_ne]; omega
  have g2 : (T.op == 2) = false := by rw [beq_eq_false_iff_ne]; omega
  have g11 : (T.op == 11) = false := by rw [beq_eq_false_iff_ne]; omega
  clear hres hcont hnone hvl ih h8 h7 h6 h5 hp hl har hrs hvals h4 hc e1 e2 hE hg
  have HB := Aside0.mk (Below.refl w.heap.size w)
  have c2b0 : (0 ≤ (T.kids.length : Int)) = True := eq_true (by omega)
  have X3 := Aside0.mk h3
  have X1 := Aside0.mk h1
  have HRL : Aside0 (List.replicate (T.kids.length : Int).toNat (0 : Int) = vals.take 0 ++ List.replicate (vals.length - 0) 0) := ⟨by rw [HVL.out]; simp⟩
  have HCL : Aside0 ((vals.take 0 ++ List.replicate (vals.length - 0) 0).length = T.kids.length) := ⟨by rw [HVL.out]; simp⟩
  go_enter Try.func113, Try.ntmps113
  go_wp2_with (first | ((with_reducible refine gate_dst (N := 75) rfl ?_); refine Kd.R_make (Kd.int .i64) _ 2 rfl (N := 75) rfl 60 _ _ rfl (T.kids.length : Int) rfl rfl Try.underlying60 (.int .i64 0) 8 info2 rfl (by decide) (by omega) 0 (ok := fun _ => True) (okp := fun _ => True) rfl (fun _ hk => hk) trivial (by omega) (by have := HLN.out; omega) (Below.refl _ _) (Nat.le_refl _) ?_; intro v75 w4 ho5 hb hg_ hnew_; clear hg_ hnew_; have y3 := pw_cell_below hb X3.out; have y1 := pw_cell_below hb X1.out; rw [HRL.out] at ho5; obtain ⟨go, co, rfl, gb, -, -⟩ := Kd.R_form ho5 (by rw [HCL.out]; have := HLN.out; omega); rw [HCL.out] at ho5 ⊢; have HO := Aside0.mk ho5; have HB4 := Aside0.mk hb; have HCO := Aside0.mk (Kd.R_reads' ho5).2.1; have GB := Aside0.mk gb; clear hb ho5 gb))
  go_loopg [81] T.kids.length (fun gg v81 wr => ∃ i : Nat, v81 = .int .i64 (i : Int) ∧ Aside0 (i ≤ T.kids.length ∧ T.kids.length - i ≤ gg ∧ ∀ j, j < i → ((T.kids.getD j (.mk 0 0 [])).ev impl_doOp.f env).2 = false) ∧ Aside0 (Kd.R (Kd.int .i64) 2 wr w.heap.size (fun _ => True) (.slice (some ⟨go, 0, none⟩) T.kids.length co) (vals.take i ++ List.replicate (vals.length - i) 0)) ∧ Aside0 (Below w.heap.size w wr))
  case atStart => exact ⟨0, rfl, ⟨Nat.zero_le _, Nat.le_refl _, fun j hj => absurd hj (Nat.not_lt_zero _)⟩, HO, HB4⟩
  case round =>
    clear y3 y1
    obtain ⟨i, rfl, A1, HO, HB⟩ := hrel
    by_cases c2 : i < T.kids.length
    · obtain ⟨ad, e0, hx⟩ := Tree.ptr_at H7.out i c2
      cases e0
      have hx := pw_cell_below HB.out hx
      have y3 := pw_cell_below HB.out X3.out
      have hsub := HIH.out i c2 wr HB.out
      obtain ⟨k1, k2, k3⟩ := HCONT.out i c2
      have hKD : T.kids.getD i (.mk 0 0 []) = T.kids[i] := by rw [List.getD_eq_getElem?_getD, List.getElem?_eq_getElem c2]; rfl
      have hcs := cur_set vals i (by rw [HVL.out]; exact c2)
      have hclen := cur_len vals i (by rw [HVL.out]; omega)
      rw [HVL.out] at hclen
      rw [k1] at hcs
      generalize az.getD i Tree.nowhere = ai at hx hsub
      generalize hK : T.kids[i].ev impl_doOp.f env = rk at hsub k2 k3 hcs
      rw [← hKD] at hK
      obtain ⟨n, b⟩ := rk
      simp only at hcs hsub k2 k3
      have c2t : ((i : Int) < (T.kids.length : Int)) = True := eq_true (by omega)
      have C2 := Aside0.mk c2
      have HKE := Aside0.mk hK
      have HCS := Aside0.mk hcs
      have HCLN := Aside0.mk hclen
      clear c2 k1 k2 hKD hK hcs hclen
      cases b with
      | true =>
        have HANY := Aside0.mk (k3 rfl)
        clear k3
        go_wp2_with (go_at_call 113; (with_reducible refine hsub.mono ?_); rintro e w1 ⟨rfl, hb⟩; have HB1 := Aside0.mk hb; clear hb)
        go_ret2
        have hr := HRES.out
        rw [if_pos HANY.out] at hr
        injection hr with hr1 hr2
        exact ⟨by rw [hr1, hr2]; rfl, below_step HB.out HB1.out⟩
      | false =>
        clear k3
        have p9 : 0 ≤ (i : Int) := by omega
        have q9 : (i : Int) < (T.kids.length : Int) := by have := C2.out; omega
        have P9 := Aside0.mk p9
        have Q9 := Aside0.mk q9
        replace p9 := eq_true p9
        clear q9
        go_wp2_with (first | (go_at_call 113; (with_reducible refine hsub.mono ?_); rintro e w1 ⟨rfl, hb⟩; have HB1 := Aside0.mk hb; have HO1 := Aside0.mk (Kd.R_below HO.out hb); obtain ⟨hx9, hf9⟩ := Kd.R_celln 0 (Kd.R_below HO.out hb) (i : Int) P9.out Q9.out; have HP := Aside0.mk (Kd.R_putg (Kd.R_below HO.out hb) (i : Int) n); rw [Int.toNat_natCast] at hx9 hf9; clear hb) | ((with_reducible refine gate_store (t := 2) (p := 96) rfl ?_); refine store_event (t := 2) (p := 96) (v := ?vo_w11) (w1 := (w1.setCell ⟨go, i, none⟩ (.int .i64 n))) ?hg ?ho ?hn ?hr ?_; (case ho => rfl); (case hg => rfl); (case hn => rfl); (case hr => first | (go_simp; done) | (go_simp; rfl)); intro w2 hw; have HP2 := HP.out; rw [Int.toNat_natCast, ← hw, HCS.out] at HP2; have HB2 := Aside0.mk ((by rw [hw]; exact below_set (below_step HB.out HB1.out) GB.out : Below w.heap.size w w2)); have HO2 := Aside0.mk HP2.1; clear hw HP2))
        go_roundg (T.kids.length - (i + 1))
        case measure => have := A1.out; have := C2.out; omega
        case rel =>
          refine ⟨i + 1, ?_, ⟨C2.out, Nat.le_refl _, fun j h => ?_⟩, HO2, HB2⟩
          · congr 1; have := HLN.out; have := C2.out; unfold wrap64; omega
          · by_cases e : j = i
            · subst e; rw [HKE.out]
            · exact A1.out.2.2 j (by omega)
    · have hi : i = T.kids.length := by have := A1.out; omega
      have hall := HNONE.out (fun j hj => A1.out.2.2 j (by omega))
      have y1 := pw_cell_below HB.out X1.out
      have hC := (Kd.R_reads' HO.out).2.2
      have hcur : vals.take i ++ List.replicate (vals.length - i) 0 = vals := by rw [HVL.out, hi, Nat.sub_self, List.take_of_length_le (by rw [HVL.out]; exact Nat.le_refl _)]; simp
      rw [hcur, HVL.out] at hC
      have hcall := hdo.out wr go co HCO.out hC
      have c2t : ((i : Int) < (T.kids.length : Int)) = False := eq_false (by omega)
      have HALL := Aside0.mk hall
      clear hi hall hC hcur c2
      go_wp2_with (go_at_call 142; (with_reducible refine hcall.mono ?_); rintro e w1 ⟨rfl, ⟨q, rfl⟩⟩)
      go_ret2
      have hr := HRES.out
      rw [if_neg (by rw [HALL.out]; simp)] at hr
      rw [← hr]
      exact ⟨rfl, pw_below_drewN HB.out q⟩
theorem tree_eval.calls (d : Nat) : EvalSays d := by
  induction d with
  | zero => intro T a ok E c env w h; exact h.elim
  | succ d ih =>
    intro T a ok E c env w h hg hE h4 hc
    have hop := Tree.numOK_op hg.num
    by_cases e1 : T.op = 1
    · exact eval_num T a ok E c env w h e1
    · by_cases e2 : T.op = 2
      · exact eval_var T a ok E c env w h hg hE h4 hc e2
      · by_cases e3 : T.op = 11
        · exact eval_if ih T a ok E c env w h hg hE h4 hc e3
        · exact eval_gen ih T a ok E c env w h hg hE h4 hc (by omega) (by omega)

/-! ### impl.EvalTerm: function 69, by hand -/
def impl_EvalTerm.f (l0 : List S87) (l1 : List Int) : Option (Int × Bool × Bool) :=
  match Tree.treeOf (toP l0) with
  | none => some (0, false, false)
  | some T => if l1.length = 4 then some ((T.ev impl_doOp.f l1).1, (T.ev impl_doOp.f l1).2, true) else some (0, false, false)
set_option maxHeartbeats 8000000 in
set_option maxRecDepth 100000 in
theorem impl_EvalTerm.calls (A0 : Option Addr) (c0 : Nat) (l0 : List S87) (A1 : Option Addr) (c1 : Nat) (l1 : List Int) (r1 : Int) (r2 r3 : Bool) (w : World) (hr0 : Kd.C k87 w A0 l0.length l0) (hc0 : l0.length ≤ c0) (hr1 : Kd.C (Kd.int .i64) w A1 l1.length l1) (hc1 : l1.length ≤ c1) (h : impl_EvalTerm.f l0 l1 = some (r1, r2, r3)) :
    Calls Try.prog 69 #[.slice A0 l0.length c0, .slice A1 l1.length c1] w fun e w' => e = .returned (.tuple #[.int .i64 r1, .bool r2, .bool r3]) ∧ Below w.heap.size w w' := by
  have HT := Aside0.mk (impl_treeOf.calls A0 c0 l0 w hr0 hc0)
  have HR1 := Aside0.mk hr1
  have HC1 := Aside0.mk hc1
  clear hr0 hc0 hr1 hc1
  unfold impl_EvalTerm.f at h
  cases hT : Tree.treeOf (toP l0) with
  | none =>
    simp only [hT] at h HT
    obtain ⟨rfl, rfl, rfl⟩ : r1 = 0 ∧ r2 = false ∧ r3 = false := by simpa [eq_comm] using h
    clear hT h
    go_enter Try.func69, Try.ntmps69
    go_wp2_with (go_at_call 78; refine HT.out.mono ?_; rintro e w' ⟨v, rfl, hR, hb⟩; obtain rfl := hR.out; have HB := Aside0.mk hb; clear hR hb)
    go_ret3
    exact ⟨rfl, HB.out⟩
  | some T =>
    simp only [hT] at h HT
    have HG := Aside0.mk (Tree.treeOf_flat hT).1
    by_cases h4 : l1.length = 4
    · rw [if_pos h4] at h
      obtain ⟨rfl, rfl, rfl⟩ : r1 = (T.ev impl_doOp.f l1).1 ∧ r2 = (T.ev impl_doOp.f l1).2 ∧ r3 = true := by simpa [eq_comm] using h
      have hev : ∀ (w' : World) (a : Addr), Tree.Tree w' (fun k => w.heap.size ≤ k) T a → Below w.heap.size w w' → Calls Try.prog 113 #[.pointer (some a), .slice A1 l1.length c1] w' fun e w'' => e = .returned (.tuple #[.int .i64 (T.ev impl_doOp.f l1).1, .bool (T.ev impl_doOp.f l1).2]) ∧ Below w.heap.size w w'' := by
        rintro w' a ⟨d, hT⟩ hb
        exact (tree_eval.calls d T a _ A1 c1 l1 w' hT HG.out (Kd.C_below HR1.out hb) h4 HC1.out).mono fun e w'' ⟨h, k⟩ => ⟨h, below_step hb k⟩
      have HEV := Aside0.mk hev
      have h4' : ((l1.length : Int) != 4) = false := by simp; omega
      clear hev h4 hT h
      generalize (T.ev impl_doOp.f l1).1 = x at HEV ⊢
      generalize (T.ev impl_doOp.f l1).2 = y at HEV ⊢
      go_enter Try.func69, Try.ntmps69
      go_wp2_with (first | (go_at_call 78; (with_reducible refine HT.out.mono ?_); rintro e w' ⟨v, rfl, hR, hb⟩; obtain ⟨a, rfl, ht⟩ := hR.out; have HB := Aside0.mk hb; have HTT := Aside0.mk ht; clear hR hb ht) | (go_at_call 113; (with_reducible refine (HEV.out _ _ HTT.out HB.out).mono ?_); rintro e w2 ⟨rfl, hb⟩; have HB2 := Aside0.mk hb; clear hb))
      go_ret3
      exact ⟨rfl, HB2.out⟩
    · rw [if_neg h4] at h
      obtain ⟨rfl, rfl, rfl⟩ : r1 = 0 ∧ r2 = false ∧ r3 = false := by simpa [eq_comm] using h
      have h4' : ((l1.length : Int) != 4) = true := by rw [bne_iff_ne]; omega
      clear h4 hT h
      go_enter Try.func69, Try.ntmps69
      go_wp2_with (go_at_call 78; refine HT.out.mono ?_; rintro e w' ⟨v, rfl, hR, hb⟩; obtain ⟨a, rfl, ht⟩ := hR.out; have HB := Aside0.mk hb; clear hR hb ht)
      go_ret3
      exact ⟨rfl, HB.out⟩

/-! ### laws_FnExactEvalTerm: function 17 -/
def laws_FnExactEvalTerm.j0 : Nat → List (S90) → List Int → List (S87) → List Int → Bool → Option (Bool)
  | 0, _, _, _, _, _ => none
  | k + 1, x0, x1, x9, x10, x54 => if x54 = true then (some false) else ((laws_toNodeS.f k x0).bind fun t230 => ((laws_eqNodeS.f k x9 t230).bind fun t233 => (if t233 = true then ((laws_toInt64S.f k x1).bind fun t234 => ((laws_eqInt64S.f k x10 t234).bind fun t237 => (if t237 = true then (some true) else (some false)))) else (some false))))
def laws_FnExactEvalTerm.f (k : Nat) (l0 : List (S90)) (l1 : List Int) : Option (Bool) := if (l1.length : Int) > 1048576 then (some true) else ((laws_szNodeS.f l0 1048576).bind fun t211 => (if t211 < 0 then (some true) else ((laws_toNodeS.f k l0).bind fun t212 => ((laws_toInt64S.f k l1).bind fun t215 => ((spec_EvalTerm.f k t212 t215).bind fun bt218 => ((laws_toNodeS.f k l0).bind fun t221 => ((laws_toInt64S.f k l1).bind fun t224 => ((impl_EvalTerm.f t221 t224).bind fun bt227 => (if bt227.1 = bt218.1 then (if (bt227.2.1 != bt218.2.1) = true then (laws_FnExactEvalTerm.j0 k l0 l1 t221 t224 true) else (laws_FnExactEvalTerm.j0 k l0 l1 t221 t224 (bt227.2.2 != bt218.2.2))) else (laws_FnExactEvalTerm.j0 k l0 l1 t221 t224 true))))))))))
theorem laws_FnExactEvalTerm.mono_l : ∀ k, (∀ y0 y1 y2 y3 y4, LeO (laws_FnExactEvalTerm.j0 k y0 y1 y2 y3 y4) (laws_FnExactEvalTerm.j0 (k + 1) y0 y1 y2 y3 y4))
  | 0 => fun _ _ _ _ _ r h => by simp [laws_FnExactEvalTerm.j0] at h
  | k + 1 => by
    have ih0 := laws_FnExactEvalTerm.mono_l k
    · intro y0 y1 y2 y3 y4
      unfold laws_FnExactEvalTerm.j0
      repeat' first
      | (with_reducible exact ih0 _ _ _ _ _)
      | (with_reducible exact laws_eqInt64S.mono _ _ _)
      | (with_reducible exact laws_eqNodeS.mono _ _ _)
      | (with_reducible exact laws_toInt64S.mono _ _)
      | (with_reducible exact laws_toNodeS.mono _ _)
      | (with_reducible exact spec_EvalTerm.mono _ _ _)
      | (with_reducible exact LeO.refl _)
      | (with_reducible exact LeO.none _)
      | (with_reducible refine LeO.ite ?_ ?_)
      | (with_reducible refine LeO.bind ?_ (fun _ => ?_))
      | exact ih0 _ _ _ _ _
      | exact laws_eqInt64S.mono _ _ _
      | exact laws_eqNodeS.mono _ _ _
      | exact laws_toInt64S.mono _ _
      | exact laws_toNodeS.mono _ _
      | exact spec_EvalTerm.mono _ _ _
      | exact LeO.none _
      | refine LeO.ite ?_ ?_
      | refine LeO.bind ?_ (fun _ => ?_)
theorem laws_FnExactEvalTerm.mono : ∀ a0 a1 k, LeO (laws_FnExactEvalTerm.f k a0 a1) (laws_FnExactEvalTerm.f (k + 1) a0 a1) := by
  intro a0 a1 k
  have ih0 := laws_FnExactEvalTerm.mono_l k
  unfold laws_FnExactEvalTerm.f
  repeat' first
      | (with_reducible exact ih0 _ _ _ _ _)
      | (with_reducible exact laws_eqInt64S.mono _ _ _)
      | (with_reducible exact laws_eqNodeS.mono _ _ _)
      | (with_reducible exact laws_toInt64S.mono _ _)
      | (with_reducible exact laws_toNodeS.mono _ _)
      | (with_reducible exact spec_EvalTerm.mono _ _ _)
      | (with_reducible exact LeO.refl _)
      | (with_reducible exact LeO.none _)
      | (with_reducible refine LeO.ite ?_ ?_)
      | (with_reducible refine LeO.bind ?_ (fun _ => ?_))
      | exact ih0 _ _ _ _ _
      | exact laws_eqInt64S.mono _ _ _
      | exact laws_eqNodeS.mono _ _ _
      | exact laws_toInt64S.mono _ _
      | exact laws_toNodeS.mono _ _
      | exact spec_EvalTerm.mono _ _ _
      | exact LeO.none _
      | refine LeO.ite ?_ ?_
      | refine LeO.bind ?_ (fun _ => ?_)
set_option maxHeartbeats 8000000 in
set_option maxRecDepth 100000 in
theorem laws_FnExactEvalTerm.calls (k : Nat) (A0 : Option Addr) (c0 : Nat) (l0 : List (S90)) (A1 : Option Addr) (c1 : Nat) (l1 : List Int) (r : Bool) (w : World) (hr0 : Kd.C k90 w A0 l0.length l0) (hc0 : l0.length ≤ c0) (hr1 : Kd.C (Kd.int .i64) w A1 l1.length l1) (hc1 : l1.length ≤ c1) (h : laws_FnExactEvalTerm.f k l0 l1 = some r) :
    Calls Try.prog 17 #[.slice A0 l0.length c0, .slice A1 l1.length c1] w fun e w' => e = .returned (.bool r) ∧ Below w.heap.size w w' := by
  have HR0 := Aside0.mk hr0
  have HC0 := Aside0.mk hc0
  clear hr0 hc0
  have HR1 := Aside0.mk hr1
  have HC1 := Aside0.mk hc1
  clear hr1 hc1
  have HB := Aside0.mk (Below.refl w.heap.size w)
  have H : (if (l1.length : Int) > 1048576 then (some true) else ((laws_szNodeS.f l0 1048576).bind fun t211 => (if t211 < 0 then (some true) else ((laws_toNodeS.f k l0).bind fun t212 => ((laws_toInt64S.f k l1).bind fun t215 => ((spec_EvalTerm.f k t212 t215).bind fun bt218 => ((laws_toNodeS.f k l0).bind fun t221 => ((laws_toInt64S.f k l1).bind fun t224 => ((impl_EvalTerm.f t221 t224).bind fun bt227 => (if bt227.1 = bt218.1 then (if (bt227.2.1 != bt218.2.1) = true then (laws_FnExactEvalTerm.j0 k l0 l1 t221 t224 true) else (laws_FnExactEvalTerm.j0 k l0 l1 t221 t224 (bt227.2.2 != bt218.2.2))) else (laws_FnExactEvalTerm.j0 k l0 l1 t221 t224 true))))))))))) = some r := h
  clear h
  by_cases c3 : (l1.length : Int) > 1048576
  · rw [if_pos c3] at H
    have c3b0 : decide (1048576 < (l1.length : Int)) = true := decide_eq_true c3
    have c3b1 : decide (1048576 < l1.length) = true := decide_eq_true (by omega)
    clear c3
    obtain rfl := Option.some.inj H
    go_enter Try.func17, Try.ntmps17
    go_wp2
    go_ret
    exact ⟨by first | rfl | (simp [errW_none, errW_some] <;> rfl) | (simp [*, errW_none, errW_some] <;> rfl), by repeat (first | (with_reducible first | exact HB.out | apply below_alloc | apply pw_below_drewN | apply below_drew1) | exact HB.out)⟩
  · rw [if_neg c3] at H
    have c3b0 : decide (1048576 < (l1.length : Int)) = false := decide_eq_false c3
    have c3b1 : decide (1048576 < l1.length) = false := decide_eq_false (by omega)
    clear c3
    replace H := Option.bind_eq_some_iff.mp H
    obtain ⟨t211, A40, H⟩ := H
    replace H : (if t211 < 0 then (some true) else ((laws_toNodeS.f k l0).bind fun t212 => ((laws_toInt64S.f k l1).bind fun t215 => ((spec_EvalTerm.f k t212 t215).bind fun bt218 => ((laws_toNodeS.f k l0).bind fun t221 => ((laws_toInt64S.f k l1).bind fun t224 => ((impl_EvalTerm.f t221 t224).bind fun bt227 => (if bt227.1 = bt218.1 then (if (bt227.2.1 != bt218.2.1) = true then (laws_FnExactEvalTerm.j0 k l0 l1 t221 t224 true) else (laws_FnExactEvalTerm.j0 k l0 l1 t221 t224 (bt227.2.2 != bt218.2.2))) else (laws_FnExactEvalTerm.j0 k l0 l1 t221 t224 true))))))))) = some r := H
    have A4 := Aside0.mk A40
    clear A40
    by_cases c5 : t211 < 0
    · rw [if_pos c5] at H
      have c5b0 : decide (t211 < 0) = true := decide_eq_true c5
      clear c5
      obtain rfl := Option.some.inj H
      go_enter Try.func17, Try.ntmps17
      go_wp2_with (first | ((with_reducible refine gate_callee (f := 20) rfl ?_); refine goesL_ (some 19) rfl rfl Try.func20 (by kernel_rfl) rfl #[.slice A0 l0.length c0, .int .i64 1048576] rfl (by (try simp only [List.map_toArray, List.map_cons, List.map_nil]); first | done | rfl | (simp only [List.length_drop, List.length_take]; rfl)) ?_; (with_reducible refine (laws_szNodeS.calls _ _ l0 1048576 t211 _ ?side1 ?side2 A4.out).mono ?_); (case side1 => repeat (first | exact HR0.out | (with_reducible refine Kd.C_alloc ?_ _) | (with_reducible refine Kd.C_drewN ?_ _) | (with_reducible refine Kd.C_drew ?_))); (case side2 => exact HC0.out); rintro e w' ⟨rfl, ⟨nd, rfl⟩⟩; refine ⟨_, rfl, ?_⟩))
      go_ret
      exact ⟨by first | rfl | (simp [errW_none, errW_some] <;> rfl) | (simp [*, errW_none, errW_some] <;> rfl), by repeat (first | (with_reducible first | exact HB.out | apply below_alloc | apply pw_below_drewN | apply below_drew1) | exact HB.out)⟩
    · rw [if_neg c5] at H
      have c5b0 : decide (t211 < 0) = false := decide_eq_false c5
      clear c5
      replace H := Option.bind_eq_some_iff.mp H
      obtain ⟨t212, A60, H⟩ := H
      replace H : ((laws_toInt64S.f k l1).bind fun t215 => ((spec_EvalTerm.f k t212 t215).bind fun bt218 => ((laws_toNodeS.f k l0).bind fun t221 => ((laws_toInt64S.f k l1).bind fun t224 => ((impl_EvalTerm.f t221 t224).bind fun bt227 => (if bt227.1 = bt218.1 then (if (bt227.2.1 != bt218.2.1) = true then (laws_FnExactEvalTerm.j0 k l0 l1 t221 t224 true) else (laws_FnExactEvalTerm.j0 k l0 l1 t221 t224 (bt227.2.2 != bt218.2.2))) else (laws_FnExactEvalTerm.j0 k l0 l1 t221 t224 true))))))) = some r := H
      have A6 := Aside0.mk A60
      clear A60
      replace H := Option.bind_eq_some_iff.mp H
      obtain ⟨t215, A70, H⟩ := H
      replace H : ((spec_EvalTerm.f k t212 t215).bind fun bt218 => ((laws_toNodeS.f k l0).bind fun t221 => ((laws_toInt64S.f k l1).bind fun t224 => ((impl_EvalTerm.f t221 t224).bind fun bt227 => (if bt227.1 = bt218.1 then (if (bt227.2.1 != bt218.2.1) = true then (laws_FnExactEvalTerm.j0 k l0 l1 t221 t224 true) else (laws_FnExactEvalTerm.j0 k l0 l1 t221 t224 (bt227.2.2 != bt218.2.2))) else (laws_FnExactEvalTerm.j0 k l0 l1 t221 t224 true)))))) = some r := H
      have A7 := Aside0.mk A70
      clear A70
      replace H := Option.bind_eq_some_iff.mp H
      obtain ⟨⟨t218, t219, t220⟩, A80, H⟩ := H
      replace H : ((laws_toNodeS.f k l0).bind fun t221 => ((laws_toInt64S.f k l1).bind fun t224 => ((impl_EvalTerm.f t221 t224).bind fun bt227 => (if bt227.1 = t218 then (if (bt227.2.1 != t219) = true then (laws_FnExactEvalTerm.j0 k l0 l1 t221 t224 true) else (laws_FnExactEvalTerm.j0 k l0 l1 t221 t224 (bt227.2.2 != t220))) else (laws_FnExactEvalTerm.j0 k l0 l1 t221 t224 true))))) = some r := H
      have A8 := Aside0.mk A80
      clear A80
      replace H := Option.bind_eq_some_iff.mp H
      obtain ⟨t221, A90, H⟩ := H
      replace H : ((laws_toInt64S.f k l1).bind fun t224 => ((impl_EvalTerm.f t221 t224).bind fun bt227 => (if bt227.1 = t218 then (if (bt227.2.1 != t219) = true then (laws_FnExactEvalTerm.j0 k l0 l1 t221 t224 true) else (laws_FnExactEvalTerm.j0 k l0 l1 t221 t224 (bt227.2.2 != t220))) else (laws_FnExactEvalTerm.j0 k l0 l1 t221 t224 true)))) = some r := H
      have A9 := Aside0.mk A90
      clear A90
      replace H := Option.bind_eq_some_iff.mp H
      obtain ⟨t224, A100, H⟩ := H
      replace H : ((impl_EvalTerm.f t221 t224).bind fun bt227 => (if bt227.1 = t218 then (if (bt227.2.1 != t219) = true then (laws_FnExactEvalTerm.j0 k l0 l1 t221 t224 true) else (laws_FnExactEvalTerm.j0 k l0 l1 t221 t224 (bt227.2.2 != t220))) else (laws_FnExactEvalTerm.j0 k l0 l1 t221 t224 true))) = some r := H
      have A10 := Aside0.mk A100
      clear A100
      replace H := Option.bind_eq_some_iff.mp H
      obtain ⟨⟨t227, t228, t229⟩, A110, H⟩ := H
      replace H : (if t227 = t218 then (if (t228 != t219) = true then (laws_FnExactEvalTerm.j0 k l0 l1 t221 t224 true) else (laws_FnExactEvalTerm.j0 k l0 l1 t221 t224 (t229 != t220))) else (laws_FnExactEvalTerm.j0 k l0 l1 t221 t224 true)) = some r := H
      have A11 := Aside0.mk A110
      clear A110
      have HC12 := Aside0.mk H
      clear H
      go_enter Try.func17, Try.ntmps17
      go_upto_region 11 with (first | ((with_reducible refine gate_callee (f := 20) rfl ?_); refine goesL_ (some 19) rfl rfl Try.func20 (by kernel_rfl) rfl #[.slice A0 l0.length c0, .int .i64 1048576] rfl (by (try simp only [List.map_toArray, List.map_cons, List.map_nil]); first | done | rfl | (simp only [List.length_drop, List.length_take]; rfl)) ?_; (with_reducible refine (laws_szNodeS.calls _ _ l0 1048576 t211 _ ?side1 ?side2 A4.out).mono ?_); (case side1 => repeat (first | exact HR0.out | (with_reducible refine Kd.C_alloc ?_ _) | (with_reducible refine Kd.C_drewN ?_ _) | (with_reducible refine Kd.C_drew ?_))); (case side2 => exact HC0.out); rintro e w' ⟨rfl, ⟨nd, rfl⟩⟩; refine ⟨_, rfl, ?_⟩) | ((with_reducible refine gate_callee (f := 22) rfl ?_); refine goesL_ (some 24) rfl rfl Try.func22 (by kernel_rfl) rfl #[.slice A0 l0.length c0] rfl (by (try simp only [List.map_toArray, List.map_cons, List.map_nil]); first | done | rfl | (simp only [List.length_drop, List.length_take]; rfl)) ?_; (with_reducible refine (laws_toNodeS.calls k _ _ l0 t212 _ ?side1 ?side2 A6.out).mono ?_); (case side1 => repeat (first | exact HR0.out | (with_reducible refine Kd.C_alloc ?_ _) | (with_reducible refine Kd.C_drewN ?_ _) | (with_reducible refine Kd.C_drew ?_))); (case side2 => exact HC0.out); rintro e w13 ⟨v213, rfl, ho0, hb⟩; refine ⟨_, rfl, ?_⟩; have n0_ := Aside0.mk (Kd.R_lower ho0 (below_size (by repeat (first | (with_reducible first | exact HB.out | apply below_alloc | apply pw_below_drewN | apply below_drew1) | exact HB.out)))); have n1_ := Aside0.mk (below_step (by repeat (first | (with_reducible first | exact HB.out | apply below_alloc | apply pw_below_drewN | apply below_drew1) | exact HB.out)) hb); clear HB; have HO214 := n0_; have HB := n1_; clear n0_ n1_; (try clear hb); (try clear hb2); (try clear hk); (try clear hi); (try clear ho0)) | ((with_reducible refine gate_callee (f := 53) rfl ?_); refine goesL_ (some 26) rfl rfl Try.func53 (by kernel_rfl) rfl #[.slice A1 l1.length c1] rfl (by (try simp only [List.map_toArray, List.map_cons, List.map_nil]); first | done | rfl | (simp only [List.length_drop, List.length_take]; rfl)) ?_; (with_reducible refine (laws_toInt64S.calls k _ _ l1 t215 _ ?side1 ?side2 A7.out).mono ?_); (case side1 => repeat (first | exact (Kd.C_below HR1.out HB.out) | (with_reducible refine Kd.C_alloc ?_ _) | (with_reducible refine Kd.C_drewN ?_ _) | (with_reducible refine Kd.C_drew ?_))); (case side2 => exact HC1.out); rintro e w14 ⟨v216, rfl, ho0, hb⟩; refine ⟨_, rfl, ?_⟩; have n0_ := Aside0.mk (Kd.R_below (by (with_reducible repeat (first | apply Kd.R_alloc | apply Kd.R_drewN | apply Kd.R_drew)); exact HO214.out) hb); have n1_ := Aside0.mk (Kd.R_lower ho0 (below_size (by repeat (first | (with_reducible first | exact HB.out | apply below_alloc | apply pw_below_drewN | apply below_drew1) | exact HB.out)))); have n2_ := Aside0.mk (below_step (by repeat (first | (with_reducible first | exact HB.out | apply below_alloc | apply pw_below_drewN | apply below_drew1) | exact HB.out)) hb); clear HO214; clear HB; have HO214 := n0_; have HO217 := n1_; have HB := n2_; clear n0_ n1_ n2_; (try clear hb); (try clear hb2); (try clear hk); (try clear hi); (try clear ho0); obtain ⟨Ao15, co15, eo15⟩ := Kd.R_slice HO214.out; subst eo15; obtain ⟨Ao16, co16, eo16⟩ := Kd.R_slice HO217.out; subst eo16) | ((with_reducible refine gate_callee (f := 68) rfl ?_); refine goesL_ (some 27) rfl rfl Try.func68 (by kernel_rfl) rfl #[.slice Ao15 t212.length co15, .slice Ao16 t215.length co16] rfl (by (try simp only [List.map_toArray, List.map_cons, List.map_nil]); first | done | rfl | (simp only [List.length_drop, List.length_take]; rfl)) ?_; (with_reducible refine (spec_EvalTerm.calls k _ _ t212 _ _ t215 t218 t219 t220 _ ?side1 ?side2 ?side3 ?side4 A8.out).mono ?_); (case side1 => repeat (first | exact (Kd.R_reads' HO214.out).2.2 | (with_reducible refine Kd.C_alloc ?_ _) | (with_reducible refine Kd.C_drewN ?_ _) | (with_reducible refine Kd.C_drew ?_))); (case side2 => exact (Kd.R_reads' HO214.out).2.1); (case side3 => repeat (first | exact (Kd.R_reads' HO217.out).2.2 | (with_reducible refine Kd.C_alloc ?_ _) | (with_reducible refine Kd.C_drewN ?_ _) | (with_reducible refine Kd.C_drew ?_))); (case side4 => exact (Kd.R_reads' HO217.out).2.1); rintro e w17 ⟨rfl, hb⟩; refine ⟨_, rfl, ?_⟩; have n0_ := Aside0.mk (Kd.R_below (by (with_reducible repeat (first | apply Kd.R_alloc | apply Kd.R_drewN | apply Kd.R_drew)); exact HO214.out) hb); have n1_ := Aside0.mk (Kd.R_below (by (with_reducible repeat (first | apply Kd.R_alloc | apply Kd.R_drewN | apply Kd.R_drew)); exact HO217.out) hb); have n2_ := Aside0.mk (below_step (by repeat (first | (with_reducible first | exact HB.out | apply below_alloc | apply pw_below_drewN | apply below_drew1) | exact HB.out)) hb); clear HO214; clear HO217; clear HB; have HO214 := n0_; have HO217 := n1_; have HB := n2_; clear n0_ n1_ n2_; (try clear hb); (try clear hb2); (try clear hk); (try clear hi)) | ((with_reducible refine gate_callee (f := 22) rfl ?_); refine goesL_ (some 32) rfl rfl Try.func22 (by kernel_rfl) rfl #[.slice A0 l0.length c0] rfl (by (try simp only [List.map_toArray, List.map_cons, List.map_nil]); first | done | rfl | (simp only [List.length_drop, List.length_take]; rfl)) ?_; (with_reducible refine (laws_toNodeS.calls k _ _ l0 t221 _ ?side1 ?side2 A9.out).mono ?_); (case side1 => repeat (first | exact (Kd.C_below HR0.out HB.out) | (with_reducible refine Kd.C_alloc ?_ _) | (with_reducible refine Kd.C_drewN ?_ _) | (with_reducible refine Kd.C_drew ?_))); (case side2 => exact HC0.out); rintro e w18 ⟨v222, rfl, ho0, hb⟩; refine ⟨_, rfl, ?_⟩; have n0_ := Aside0.mk (Kd.R_elder' (by (with_reducible repeat (first | apply Kd.R_alloc | apply Kd.R_drewN | apply Kd.R_drew)); exact HO214.out) (Kd.R_base ho0) hb); have n1_ := Aside0.mk (Kd.R_below (by (with_reducible repeat (first | apply Kd.R_alloc | apply Kd.R_drewN | apply Kd.R_drew)); exact HO217.out) hb); have n2_ := Aside0.mk (Kd.R_lower (Kd.R_new' ho0 (Kd.R_lt (by (with_reducible repeat (first | apply Kd.R_alloc | apply Kd.R_drewN | apply Kd.R_drew)); exact HO214.out))) (below_size (by repeat (first | (with_reducible first | exact HB.out | apply below_alloc | apply pw_below_drewN | apply below_drew1) | exact HB.out)))); have n3_ := Aside0.mk (below_step (by repeat (first | (with_reducible first | exact HB.out | apply below_alloc | apply pw_below_drewN | apply below_drew1) | exact HB.out)) hb); clear HO214; clear HO217; clear HB; have HO214 := n0_; have HO217 := n1_; have HO223 := n2_; have HB := n3_; clear n0_ n1_ n2_ n3_; (try clear hb); (try clear hb2); (try clear hk); (try clear hi); (try clear ho0)) | ((with_reducible refine gate_callee (f := 53) rfl ?_); refine goesL_ (some 34) rfl rfl Try.func53 (by kernel_rfl) rfl #[.slice A1 l1.length c1] rfl (by (try simp only [List.map_toArray, List.map_cons, List.map_nil]); first | done | rfl | (simp only [List.length_drop, List.length_take]; rfl)) ?_; (with_reducible refine (laws_toInt64S.calls k _ _ l1 t224 _ ?side1 ?side2 A10.out).mono ?_); (case side1 => repeat (first | exact (Kd.C_below HR1.out HB.out) | (with_reducible refine Kd.C_alloc ?_ _) | (with_reducible refine Kd.C_drewN ?_ _) | (with_reducible refine Kd.C_drew ?_))); (case side2 => exact HC1.out); rintro e w19 ⟨v225, rfl, ho0, hb⟩; refine ⟨_, rfl, ?_⟩; have n0_ := Aside0.mk (Kd.R_below (by (with_reducible repeat (first | apply Kd.R_alloc | apply Kd.R_drewN | apply Kd.R_drew)); exact HO214.out) hb); have n1_ := Aside0.mk (Kd.R_elder' (by (with_reducible repeat (first | apply Kd.R_alloc | apply Kd.R_drewN | apply Kd.R_drew)); exact HO217.out) (Kd.R_base ho0) hb); have n2_ := Aside0.mk (Kd.R_below (by (with_reducible repeat (first | apply Kd.R_alloc | apply Kd.R_drewN | apply Kd.R_drew)); exact HO223.out) hb); have n3_ := Aside0.mk (Kd.R_lower (Kd.R_new' ho0 (Kd.R_lt (by (with_reducible repeat (first | apply Kd.R_alloc | apply Kd.R_drewN | apply Kd.R_drew)); exact HO217.out))) (below_size (by repeat (first | (with_reducible first | exact HB.out | apply below_alloc | apply pw_below_drewN | apply below_drew1) | exact HB.out)))); have n4_ := Aside0.mk (below_step (by repeat (first | (with_reducible first | exact HB.out | apply below_alloc | apply pw_below_drewN | apply below_drew1) | exact HB.out)) hb); clear HO214; clear HO217; clear HO223; clear HB; have HO214 := n0_; have HO217 := n1_; have HO223 := n2_; have HO226 := n3_; have HB := n4_; clear n0_ n1_ n2_ n3_ n4_; (try clear hb); (try clear hb2); (try clear hk); (try clear hi); (try clear ho0); obtain ⟨Ao20, co20, eo20⟩ := Kd.R_slice HO223.out; subst eo20; obtain ⟨Ao21, co21, eo21⟩ := Kd.R_slice HO226.out; subst eo21) | ((with_reducible refine gate_callee (f := 69) rfl ?_); refine goesL_ (some 38) rfl rfl Try.func69 (by kernel_rfl) rfl #[.slice Ao20 t221.length co20, .slice Ao21 t224.length co21] rfl (by (try simp only [List.map_toArray, List.map_cons, List.map_nil]); first | done | rfl | (simp only [List.length_drop, List.length_take]; rfl)) ?_; (with_reducible refine (impl_EvalTerm.calls _ _ t221 _ _ t224 t227 t228 t229 _ ?side1 ?side2 ?side3 ?side4 A11.out).mono ?_); (case side1 => repeat (first | exact (Kd.R_reads' HO223.out).2.2 | (with_reducible refine Kd.C_alloc ?_ _) | (with_reducible refine Kd.C_drewN ?_ _) | (with_reducible refine Kd.C_drew ?_))); (case side2 => exact (Kd.R_reads' HO223.out).2.1); (case side3 => repeat (first | exact (Kd.R_reads' HO226.out).2.2 | (with_reducible refine Kd.C_alloc ?_ _) | (with_reducible refine Kd.C_drewN ?_ _) | (with_reducible refine Kd.C_drew ?_))); (case side4 => exact (Kd.R_reads' HO226.out).2.1); rintro e w22 ⟨rfl, hb⟩; refine ⟨_, rfl, ?_⟩; have n0_ := Aside0.mk (Kd.R_below (by (with_reducible repeat (first | apply Kd.R_alloc | apply Kd.R_drewN | apply Kd.R_drew)); exact HO214.out) hb); have n1_ := Aside0.mk (Kd.R_below (by (with_reducible repeat (first | apply Kd.R_alloc | apply Kd.R_drewN | apply Kd.R_drew)); exact HO217.out) hb); have n2_ := Aside0.mk (Kd.R_below (by (with_reducible repeat (first | apply Kd.R_alloc | apply Kd.R_drewN | apply Kd.R_drew)); exact HO223.out) hb); have n3_ := Aside0.mk (Kd.R_below (by (with_reducible repeat (first | apply Kd.R_alloc | apply Kd.R_drewN | apply Kd.R_drew)); exact HO226.out) hb); have n4_ := Aside0.mk (below_step (by repeat (first | (with_reducible first | exact HB.out | apply below_alloc | apply pw_below_drewN | apply below_drew1) | exact HB.out)) hb); clear HO214; clear HO217; clear HO223; clear HO226; clear HB; have HO214 := n0_; have HO217 := n1_; have HO223 := n2_; have HO226 := n3_; have HB := n4_; clear n0_ n1_ n2_ n3_ n4_; (try clear hb); (try clear hb2); (try clear hk); (try clear hi)))
      (try simp only [Act.put, List.setIfInBounds_toArray, List.set_cons_zero, List.set_cons_succ])
      go_cut [54] (fun v54 wc => ∃ (kq : Nat) (x54_11 : Bool), v54 = .bool x54_11 ∧ Aside0 (laws_FnExactEvalTerm.j0 kq l0 l1 t221 t224 x54_11 = some r) ∧ Aside0 (kq ≤ k) ∧ Aside0 (Kd.R k87 87 wc w.heap.size (fun _ => True) (.slice Ao20 t221.length co20) t221) ∧ Aside0 (Kd.R (Kd.int .i64) 2 wc w.heap.size (fun _ => True) (.slice Ao21 t224.length co21) t224) ∧ Aside0 (Below w.heap.size w wc))
      case first =>
        have H := HC12.out
        clear HC12
        by_cases c23 : t227 = t218
        · rw [if_pos c23] at H
          have c23b0 : (t227 == t218) = true := beq_iff_eq.mpr c23
          have c23b1 : (t227 != t218) = false := bne_eq_false_iff_eq.mpr c23
          clear c23
          (first | rw [c23b0] | (simp only [i64_w, i32_w]; rw [c23b0]) | skip)
          by_cases c24 : (t228 != t219) = true
          · rw [if_pos c24] at H
            have c24b0 : (t228 != t219) = true := c24
            (try (have c24b1 : decide (t228 = t219) = false := by simpa using c24))
            (try (have c24b2 : (t228 == t219) = false := by simpa using c24))
            (try (have c24b3 : ¬ (t228 = t219) := by simpa using c24))
            clear c24
            have H' := Aside0.mk H
            clear H
            go_wp2
            go_meet
            case rel => exact ⟨_, (true), (by first | rfl | (simp; done) | (simp [*]; done)), H', ⟨by first | omega | exact Nat.le_refl _⟩, ⟨by (with_reducible repeat (first | apply Kd.R_alloc | apply Kd.R_drewN | apply Kd.R_drew)); exact Kd.R_mono HO223.out (fun _ hk => trivial)⟩, ⟨by (with_reducible repeat (first | apply Kd.R_alloc | apply Kd.R_drewN | apply Kd.R_drew)); exact Kd.R_mono HO226.out (fun _ hk => trivial)⟩, ⟨by repeat (first | (with_reducible first | exact HB.out | apply below_alloc | apply pw_below_drewN | apply below_drew1) | exact HB.out)⟩⟩
          · rw [if_neg c24] at H
            have c24b0 : (t228 != t219) = false := by simpa using c24
            (try (have c24b1 : decide (t228 = t219) = true := by simpa using c24))
            (try (have c24b2 : (t228 == t219) = true := by simpa using c24))
            clear c24
            have H' := Aside0.mk H
            clear H
            go_wp2
            go_meet
            case rel => exact ⟨_, ((t229 != t220)), (by first | rfl | (simp; done) | (simp [*]; done)), H', ⟨by first | omega | exact Nat.le_refl _⟩, ⟨by (with_reducible repeat (first | apply Kd.R_alloc | apply Kd.R_drewN | apply Kd.R_drew)); exact Kd.R_mono HO223.out (fun _ hk => trivial)⟩, ⟨by (with_reducible repeat (first | apply Kd.R_alloc | apply Kd.R_drewN | apply Kd.R_drew)); exact Kd.R_mono HO226.out (fun _ hk => trivial)⟩, ⟨by repeat (first | (with_reducible first | exact HB.out | apply below_alloc | apply pw_below_drewN | apply below_drew1) | exact HB.out)⟩⟩
        · rw [if_neg c23] at H
          have c23b0 : (t227 == t218) = false := beq_eq_false_iff_ne.mpr c23
          have c23b1 : (t227 != t218) = true := bne_iff_ne.mpr c23
          (first | rw [c23b0] | (simp only [i64_w, i32_w]; rw [c23b0]) | skip)
          have H' := Aside0.mk H
          clear H
          go_wp2
          go_meet
          case rel => exact ⟨_, (true), (by first | rfl | (simp; done) | (simp [*]; done)), H', ⟨by first | omega | exact Nat.le_refl _⟩, ⟨by (with_reducible repeat (first | apply Kd.R_alloc | apply Kd.R_drewN | apply Kd.R_drew)); exact Kd.R_mono HO223.out (fun _ hk => trivial)⟩, ⟨by (with_reducible repeat (first | apply Kd.R_alloc | apply Kd.R_drewN | apply Kd.R_drew)); exact Kd.R_mono HO226.out (fun _ hk => trivial)⟩, ⟨by repeat (first | (with_reducible first | exact HB.out | apply below_alloc | apply pw_below_drewN | apply below_drew1) | exact HB.out)⟩⟩
      case rest =>
        clear HC12
        try clear c1
        try clear c2
        try clear p2
        try clear c3
        try clear c3b0
        try clear c3b1
        try clear c5
        try clear c5b0
        try clear c6
        try clear c17
        try clear c20
        try clear c22
        try clear c23
        try clear c23b0
        try clear c23b1
        try clear c24
        try clear c24b0
        try clear c24b1
        try clear c24b2
        obtain ⟨kq, x54_11, rfl, HA, HJ11, HO_9, HO_10, HB⟩ := hcut
        cases kq with
        | zero => exact absurd HA.out (by simp [laws_FnExactEvalTerm.j0])
        | succ kj11 =>
          have H := HA.out
          clear HA
          simp only [laws_FnExactEvalTerm.j0] at H
          by_cases c25 : x54_11 = true
          · subst c25
            have H1 : (some false) = some r := by rw [if_pos rfl] at H; exact H
            clear H
            have H := H1
            clear H1
            obtain rfl := Option.some.inj H
            go_wp2
            go_ret
            exact ⟨by first | rfl | (simp [errW_none, errW_some] <;> rfl) | (simp [*, errW_none, errW_some] <;> rfl), by repeat (first | (with_reducible first | exact HB.out | apply below_alloc | apply pw_below_drewN | apply below_drew1) | exact HB.out)⟩
          · replace c25 := Bool.eq_false_iff.mpr c25
            subst c25
            have H1 : ((laws_toNodeS.f kj11 l0).bind fun t230 => ((laws_eqNodeS.f kj11 t221 t230).bind fun t233 => (if t233 = true then ((laws_toInt64S.f kj11 l1).bind fun t234 => ((laws_eqInt64S.f kj11 t224 t234).bind fun t237 => (if t237 = true then (some true) else (some false)))) else (some false)))) = some r := by rw [if_neg (show ¬ (false = true) by decide)] at H; exact H
            clear H
            have H := H1
            clear H1
            replace H := Option.bind_eq_some_iff.mp H
            obtain ⟨t230, A260, H⟩ := H
            replace H : ((laws_eqNodeS.f kj11 t221 t230).bind fun t233 => (if t233 = true then ((laws_toInt64S.f kj11 l1).bind fun t234 => ((laws_eqInt64S.f kj11 t224 t234).bind fun t237 => (if t237 = true then (some true) else (some false)))) else (some false))) = some r := H
            have A26 := Aside0.mk A260
            clear A260
            replace H := Option.bind_eq_some_iff.mp H
            obtain ⟨t233, A270, H⟩ := H
            replace H : (if t233 = true then ((laws_toInt64S.f kj11 l1).bind fun t234 => ((laws_eqInt64S.f kj11 t224 t234).bind fun t237 => (if t237 = true then (some true) else (some false)))) else (some false)) = some r := H
            have A27 := Aside0.mk A270
            clear A270
            by_cases c28 : t233 = true
            · subst c28
              have H1 : ((laws_toInt64S.f kj11 l1).bind fun t234 => ((laws_eqInt64S.f kj11 t224 t234).bind fun t237 => (if t237 = true then (some true) else (some false)))) = some r := by rw [if_pos rfl] at H; exact H
              clear H
              have H := H1
              clear H1
              replace H := Option.bind_eq_some_iff.mp H
              obtain ⟨t234, A290, H⟩ := H
              replace H : ((laws_eqInt64S.f kj11 t224 t234).bind fun t237 => (if t237 = true then (some true) else (some false))) = some r := H
              have A29 := Aside0.mk A290
              clear A290
              replace H := Option.bind_eq_some_iff.mp H
              obtain ⟨t237, A300, H⟩ := H
              replace H : (if t237 = true then (some true) else (some false)) = some r := H
              have A30 := Aside0.mk A300
              clear A300
              by_cases c31 : t237 = true
              · subst c31
                have H1 : (some true) = some r := by rw [if_pos rfl] at H; exact H
                clear H
                have H := H1
                clear H1
                obtain rfl := Option.some.inj H
                go_wp2_with (first | ((with_reducible refine gate_callee (f := 22) rfl ?_); refine goesL_ (some 57) rfl rfl Try.func22 (by kernel_rfl) rfl #[.slice A0 l0.length c0] rfl (by (try simp only [List.map_toArray, List.map_cons, List.map_nil]); first | done | rfl | (simp only [List.length_drop, List.length_take]; rfl)) ?_; (with_reducible refine (laws_toNodeS.calls kj11 _ _ l0 t230 _ ?side1 ?side2 A26.out).mono ?_); (case side1 => repeat (first | exact (Kd.C_below HR0.out HB.out) | (with_reducible refine Kd.C_alloc ?_ _) | (with_reducible refine Kd.C_drewN ?_ _) | (with_reducible refine Kd.C_drew ?_))); (case side2 => exact HC0.out); rintro e w32 ⟨v231, rfl, ho0, hb⟩; refine ⟨_, rfl, ?_⟩; have n0_ := Aside0.mk (Kd.R_elder' (by (with_reducible repeat (first | apply Kd.R_alloc | apply Kd.R_drewN | apply Kd.R_drew)); exact HO_9.out) (Kd.R_base ho0) hb); have n1_ := Aside0.mk (Kd.R_below (by (with_reducible repeat (first | apply Kd.R_alloc | apply Kd.R_drewN | apply Kd.R_drew)); exact HO_10.out) hb); have n2_ := Aside0.mk (Kd.R_lower (Kd.R_new' ho0 (Kd.R_lt (by (with_reducible repeat (first | apply Kd.R_alloc | apply Kd.R_drewN | apply Kd.R_drew)); exact HO_9.out))) (below_size (by repeat (first | (with_reducible first | exact HB.out | apply below_alloc | apply pw_below_drewN | apply below_drew1) | exact HB.out)))); have n3_ := Aside0.mk (below_step (by repeat (first | (with_reducible first | exact HB.out | apply below_alloc | apply pw_below_drewN | apply below_drew1) | exact HB.out)) hb); clear HO_9; clear HO_10; clear HB; have HO_9 := n0_; have HO_10 := n1_; have HO232 := n2_; have HB := n3_; clear n0_ n1_ n2_ n3_; (try clear hb); (try clear hb2); (try clear hk); (try clear hi); (try clear ho0); obtain ⟨Ao33, co33, eo33⟩ := Kd.R_slice HO232.out; subst eo33) | ((with_reducible refine gate_callee (f := 24) rfl ?_); refine goesL_ (some 58) rfl rfl Try.func24 (by kernel_rfl) rfl #[.slice Ao20 t221.length co20, .slice Ao33 t230.length co33] rfl (by (try simp only [List.map_toArray, List.map_cons, List.map_nil]); first | done | rfl | (simp only [List.length_drop, List.length_take]; rfl)) ?_; (with_reducible refine (laws_eqNodeS.calls kj11 _ _ t221 _ _ t230 true _ ?side1 ?side2 ?side3 ?side4 A27.out).mono ?_); (case side1 => repeat (first | exact (Kd.R_reads' HO_9.out).2.2 | (with_reducible refine Kd.C_alloc ?_ _) | (with_reducible refine Kd.C_drewN ?_ _) | (with_reducible refine Kd.C_drew ?_))); (case side2 => exact (Kd.R_reads' HO_9.out).2.1); (case side3 => repeat (first | exact (Kd.R_reads' HO232.out).2.2 | (with_reducible refine Kd.C_alloc ?_ _) | (with_reducible refine Kd.C_drewN ?_ _) | (with_reducible refine Kd.C_drew ?_))); (case side4 => exact (Kd.R_reads' HO232.out).2.1); rintro e w34 ⟨rfl, hb⟩; refine ⟨_, rfl, ?_⟩; have n0_ := Aside0.mk (Kd.R_below (by (with_reducible repeat (first | apply Kd.R_alloc | apply Kd.R_drewN | apply Kd.R_drew)); exact HO_9.out) hb); have n1_ := Aside0.mk (Kd.R_below (by (with_reducible repeat (first | apply Kd.R_alloc | apply Kd.R_drewN | apply Kd.R_drew)); exact HO_10.out) hb); have n2_ := Aside0.mk (Kd.R_below (by (with_reducible repeat (first | apply Kd.R_alloc | apply Kd.R_drewN | apply Kd.R_drew)); exact HO232.out) hb); have n3_ := Aside0.mk (below_step (by repeat (first | (with_reducible first | exact HB.out | apply below_alloc | apply pw_below_drewN | apply below_drew1) | exact HB.out)) hb); clear HO_9; clear HO_10; clear HO232; clear HB; have HO_9 := n0_; have HO_10 := n1_; have HO232 := n2_; have HB := n3_; clear n0_ n1_ n2_ n3_; (try clear hb); (try clear hb2); (try clear hk); (try clear hi)) | ((with_reducible refine gate_callee (f := 53) rfl ?_); refine goesL_ (some 62) rfl rfl Try.func53 (by kernel_rfl) rfl #[.slice A1 l1.length c1] rfl (by (try simp only [List.map_toArray, List.map_cons, List.map_nil]); first | done | rfl | (simp only [List.length_drop, List.length_take]; rfl)) ?_; (with_reducible refine (laws_toInt64S.calls kj11 _ _ l1 t234 _ ?side1 ?side2 A29.out).mono ?_); (case side1 => repeat (first | exact (Kd.C_below HR1.out HB.out) | (with_reducible refine Kd.C_alloc ?_ _) | (with_reducible refine Kd.C_drewN ?_ _) | (with_reducible refine Kd.C_drew ?_))); (case side2 => exact HC1.out); rintro e w35 ⟨v235, rfl, ho0, hb⟩; refine ⟨_, rfl, ?_⟩; have n0_ := Aside0.mk (Kd.R_below (by (with_reducible repeat (first | apply Kd.R_alloc | apply Kd.R_drewN | apply Kd.R_drew)); exact HO_9.out) hb); have n1_ := Aside0.mk (Kd.R_elder' (by (with_reducible repeat (first | apply Kd.R_alloc | apply Kd.R_drewN | apply Kd.R_drew)); exact HO_10.out) (Kd.R_base ho0) hb); have n2_ := Aside0.mk (Kd.R_below (by (with_reducible repeat (first | apply Kd.R_alloc | apply Kd.R_drewN | apply Kd.R_drew)); exact HO232.out) hb); have n3_ := Aside0.mk (Kd.R_lower (Kd.R_new' ho0 (Kd.R_lt (by (with_reducible repeat (first | apply Kd.R_alloc | apply Kd.R_drewN | apply Kd.R_drew)); exact HO_10.out))) (below_size (by repeat (first | (with_reducible first | exact HB.out | apply below_alloc | apply pw_below_drewN | apply below_drew1) | exact HB.out)))); have n4_ := Aside0.mk (below_step (by repeat (first | (with_reducible first | exact HB.out | apply below_alloc | apply pw_below_drewN | apply below_drew1) | exact HB.out)) hb); clear HO_9; clear HO_10; clear HO232; clear HB; have HO_9 := n0_; have HO_10 := n1_; have HO232 := n2_; have HO236 := n3_; have HB := n4_; clear n0_ n1_ n2_ n3_ n4_; (try clear hb); (try clear hb2); (try clear hk); (try clear hi); (try clear ho0); obtain ⟨Ao36, co36, eo36⟩ := Kd.R_slice HO236.out; subst eo36) | ((with_reducible refine gate_callee (f := 55) rfl ?_); refine goesL_ (some 63) rfl rfl Try.func55 (by kernel_rfl) rfl #[.slice Ao21 t224.length co21, .slice Ao36 t234.length co36] rfl (by (try simp only [List.map_toArray, List.map_cons, List.map_nil]); first | done | rfl | (simp only [List.length_drop, List.length_take]; rfl)) ?_; (with_reducible refine (laws_eqInt64S.calls kj11 _ _ t224 _ _ t234 true _ ?side1 ?side2 ?side3 ?side4 A30.out).mono ?_); (case side1 => repeat (first | exact (Kd.R_reads' HO_10.out).2.2 | (with_reducible refine Kd.C_alloc ?_ _) | (with_reducible refine Kd.C_drewN ?_ _) | (with_reducible refine Kd.C_drew ?_))); (case side2 => exact (Kd.R_reads' HO_10.out).2.1); (case side3 => repeat (first | exact (Kd.R_reads' HO236.out).2.2 | (with_reducible refine Kd.C_alloc ?_ _) | (with_reducible refine Kd.C_drewN ?_ _) | (with_reducible refine Kd.C_drew ?_))); (case side4 => exact (Kd.R_reads' HO236.out).2.1); rintro e w' ⟨rfl, ⟨nd, rfl⟩⟩; refine ⟨_, rfl, ?_⟩))
                go_ret
                exact ⟨by first | rfl | (simp [errW_none, errW_some] <;> rfl) | (simp [*, errW_none, errW_some] <;> rfl), by repeat (first | (with_reducible first | exact HB.out | apply below_alloc | apply pw_below_drewN | apply below_drew1) | exact HB.out)⟩
              · replace c31 := Bool.eq_false_iff.mpr c31
                subst c31
                have H1 : (some false) = some r := by rw [if_neg (show ¬ (false = true) by decide)] at H; exact H
                clear H
                have H := H1
                clear H1
                obtain rfl := Option.some.inj H
                go_wp2_with (first | ((with_reducible refine gate_callee (f := 22) rfl ?_); refine goesL_ (some 57) rfl rfl Try.func22 (by kernel_rfl) rfl #[.slice A0 l0.length c0] rfl (by (try simp only [List.map_toArray, List.map_cons, List.map_nil]); first | done | rfl | (simp only [List.length_drop, List.length_take]; rfl)) ?_; (with_reducible refine (laws_toNodeS.calls kj11 _ _ l0 t230 _ ?side1 ?side2 A26.out).mono ?_); (case side1 => repeat (first | exact (Kd.C_below HR0.out HB.out) | (with_reducible refine Kd.C_alloc ?_ _) | (with_reducible refine Kd.C_drewN ?_ _) | (with_reducible refine Kd.C_drew ?_))); (case side2 => exact HC0.out); rintro e w37 ⟨v231, rfl, ho0, hb⟩; refine ⟨_, rfl, ?_⟩; have n0_ := Aside0.mk (Kd.R_elder' (by (with_reducible repeat (first | apply Kd.R_alloc | apply Kd.R_drewN | apply Kd.R_drew)); exact HO_9.out) (Kd.R_base ho0) hb); have n1_ := Aside0.mk (Kd.R_below (by (with_reducible repeat (first | apply Kd.R_alloc | apply Kd.R_drewN | apply Kd.R_drew)); exact HO_10.out) hb); have n2_ := Aside0.mk (Kd.R_lower (Kd.R_new' ho0 (Kd.R_lt (by (with_reducible repeat (first | apply Kd.R_alloc | apply Kd.R_drewN | apply Kd.R_drew)); exact HO_9.out))) (below_size (by repeat (first | (with_reducible first | exact HB.out | apply below_alloc | apply pw_below_drewN | apply below_drew1) | exact HB.out)))); have n3_ := Aside0.mk (below_step (by repeat (first | (with_reducible first | exact HB.out | apply below_alloc | apply pw_below_drewN | apply below_drew1) | exact HB.out)) hb); clear HO_9; clear HO_10; clear HB; have HO_9 := n0_; have HO_10 := n1_; have HO232 := n2_; have HB := n3_; clear n0_ n1_ n2_ n3_; (try clear hb); (try clear hb2); (try clear hk); (try clear hi); (try clear ho0); obtain ⟨Ao38, co38, eo38⟩ := Kd.R_slice HO232.out; subst eo38) | ((with_reducible refine gate_callee (f := 24) rfl ?_); refine goesL_ (some 58) rfl rfl Try.func24 (by kernel_rfl) rfl #[.slice Ao20 t221.length co20, .slice Ao38 t230.length co38] rfl (by (try simp only [List.map_toArray, List.map_cons, List.map_nil]); first | done | rfl | (simp only [List.length_drop, List.length_take]; rfl)) ?_; (with_reducible refine (laws_eqNodeS.calls kj11 _ _ t221 _ _ t230 true _ ?side1 ?side2 ?side3 ?side4 A27.out).mono ?_); (case side1 => repeat (first | exact (Kd.R_reads' HO_9.out).2.2 | (with_reducible refine Kd.C_alloc ?_ _) | (with_reducible refine Kd.C_drewN ?_ _) | (with_reducible refine Kd.C_drew ?_))); (case side2 => exact (Kd.R_reads' HO_9.out).2.1); (case side3 => repeat (first | exact (Kd.R_reads' HO232.out).2.2 | (with_reducible refine Kd.C_alloc ?_ _) | (with_reducible refine Kd.C_drewN ?_ _) | (with_reducible refine Kd.C_drew ?_))); (case side4 => exact (Kd.R_reads' HO232.out).2.1); rintro e w39 ⟨rfl, hb⟩; refine ⟨_, rfl, ?_⟩; have n0_ := Aside0.mk (Kd.R_below (by (with_reducible repeat (first | apply Kd.R_alloc | apply Kd.R_drewN | apply Kd.R_drew)); exact HO_9.out) hb); have n1_ := Aside0.mk (Kd.R_below (by (with_reducible repeat (first | apply Kd.R_alloc | apply Kd.R_drewN | apply Kd.R_drew)); exact HO_10.out) hb); have n2_ := Aside0.mk (Kd.R_below (by (with_reducible repeat (first | apply Kd.R_alloc | apply Kd.R_drewN | apply Kd.R_drew)); exact HO232.out) hb); have n3_ := Aside0.mk (below_step (by repeat (first | (with_reducible first | exact HB.out | apply below_alloc | apply pw_below_drewN | apply below_drew1) | exact HB.out)) hb); clear HO_9; clear HO_10; clear HO232; clear HB; have HO_9 := n0_; have HO_10 := n1_; have HO232 := n2_; have HB := n3_; clear n0_ n1_ n2_ n3_; (try clear hb); (try clear hb2); (try clear hk); (try clear hi)) | ((with_reducible refine gate_callee (f := 53) rfl ?_); refine goesL_ (some 62) rfl rfl Try.func53 (by kernel_rfl) rfl #[.slice A1 l1.length c1] rfl (by (try simp only [List.map_toArray, List.map_cons, List.map_nil]); first | done | rfl | (simp only [List.length_drop, List.length_take]; rfl)) ?_; (with_reducible refine (laws_toInt64S.calls kj11 _ _ l1 t234 _ ?side1 ?side2 A29.out).mono ?_); (case side1 => repeat (first | exact (Kd.C_below HR1.out HB.out) | (with_reducible refine Kd.C_alloc ?_ _) | (with_reducible refine Kd.C_drewN ?_ _) | (with_reducible refine Kd.C_drew ?_))); (case side2 => exact HC1.out); rintro e w40 ⟨v235, rfl, ho0, hb⟩; refine ⟨_, rfl, ?_⟩; have n0_ := Aside0.mk (Kd.R_below (by (with_reducible repeat (first | apply Kd.R_alloc | apply Kd.R_drewN | apply Kd.R_drew)); exact HO_9.out) hb); have n1_ := Aside0.mk (Kd.R_elder' (by (with_reducible repeat (first | apply Kd.R_alloc | apply Kd.R_drewN | apply Kd.R_drew)); exact HO_10.out) (Kd.R_base ho0) hb); have n2_ := Aside0.mk (Kd.R_below (by (with_reducible repeat (first | apply Kd.R_alloc | apply Kd.R_drewN | apply Kd.R_drew)); exact HO232.out) hb); have n3_ := Aside0.mk (Kd.R_lower (Kd.R_new' ho0 (Kd.R_lt (by (with_reducible repeat (first | apply Kd.R_alloc | apply Kd.R_drewN | apply Kd.R_drew)); exact HO_10.out))) (below_size (by repeat (first | (with_reducible first | exact HB.out | apply below_alloc | apply pw_below_drewN | apply below_drew1) | exact HB.out)))); have n4_ := Aside0.mk (below_step (by repeat (first | (with_reducible first | exact HB.out | apply below_alloc | apply pw_below_drewN | apply below_drew1) | exact HB.out)) hb); clear HO_9; clear HO_10; clear HO232; clear HB; have HO_9 := n0_; have HO_10 := n1_; have HO232 := n2_; have HO236 := n3_; have HB := n4_; clear n0_ n1_ n2_ n3_ n4_; (try clear hb); (try clear hb2); (try clear hk); (try clear hi); (try clear ho0); obtain ⟨Ao41, co41, eo41⟩ := Kd.R_slice HO236.out; subst eo41) | ((with_reducible refine gate_callee (f := 55) rfl ?_); refine goesL_ (some 63) rfl rfl Try.func55 (by kernel_rfl) rfl #[.slice Ao21 t224.length co21, .slice Ao41 t234.length co41] rfl (by (try simp only [List.map_toArray, List.map_cons, List.map_nil]); first | done | rfl | (simp only [List.length_drop, List.length_take]; rfl)) ?_; (with_reducible refine (laws_eqInt64S.calls kj11 _ _ t224 _ _ t234 false _ ?side1 ?side2 ?side3 ?side4 A30.out).mono ?_); (case side1 => repeat (first | exact (Kd.R_reads' HO_10.out).2.2 | (with_reducible refine Kd.C_alloc ?_ _) | (with_reducible refine Kd.C_drewN ?_ _) | (with_reducible refine Kd.C_drew ?_))); (case side2 => exact (Kd.R_reads' HO_10.out).2.1); (case side3 => repeat (first | exact (Kd.R_reads' HO236.out).2.2 | (with_reducible refine Kd.C_alloc ?_ _) | (with_reducible refine Kd.C_drewN ?_ _) | (with_reducible refine Kd.C_drew ?_))); (case side4 => exact (Kd.R_reads' HO236.out).2.1); rintro e w' ⟨rfl, ⟨nd, rfl⟩⟩; refine ⟨_, rfl, ?_⟩))
                go_ret
                exact ⟨by first | rfl | (simp [errW_none, errW_some] <;> rfl) | (simp [*, errW_none, errW_some] <;> rfl), by repeat (first | (with_reducible first | exact HB.out | apply below_alloc | apply pw_below_drewN | apply below_drew1) | exact HB.out)⟩
            · replace c28 := Bool.eq_false_iff.mpr c28
              subst c28
              have H1 : (some false) = some r := by rw [if_neg (show ¬ (false = true) by decide)] at H; exact H
              clear H
              have H := H1
              clear H1
              obtain rfl := Option.some.inj H
              go_wp2_with (first | ((with_reducible refine gate_callee (f := 22) rfl ?_); refine goesL_ (some 57) rfl rfl Try.func22 (by kernel_rfl) rfl #[.slice A0 l0.length c0] rfl (by (try simp only [List.map_toArray, List.map_cons, List.map_nil]); first | done | rfl | (simp only [List.length_drop, List.length_take]; rfl)) ?_; (with_reducible refine (laws_toNodeS.calls kj11 _ _ l0 t230 _ ?side1 ?side2 A26.out).mono ?_); (case side1 => repeat (first | exact (Kd.C_below HR0.out HB.out) | (with_reducible refine Kd.C_alloc ?_ _) | (with_reducible refine Kd.C_drewN ?_ _) | (with_reducible refine Kd.C_drew ?_))); (case side2 => exact HC0.out); rintro e w42 ⟨v231, rfl, ho0, hb⟩; refine ⟨_, rfl, ?_⟩; have n0_ := Aside0.mk (Kd.R_elder' (by (with_reducible repeat (first | apply Kd.R_alloc | apply Kd.R_drewN | apply Kd.R_drew)); exact HO_9.out) (Kd.R_base ho0) hb); have n1_ := Aside0.mk (Kd.R_below (by (with_reducible repeat (first | apply Kd.R_alloc | apply Kd.R_drewN | apply Kd.R_drew)); exact HO_10.out) hb); have n2_ := Aside0.mk (Kd.R_lower (Kd.R_new' ho0 (Kd.R_lt (by (with_reducible repeat (first | apply Kd.R_alloc | apply Kd.R_drewN | apply Kd.R_drew)); exact HO_9.out))) (below_size (by repeat (first | (with_reducible first | exact HB.out | apply below_alloc | apply pw_below_drewN | apply below_drew1) | exact HB.out)))); have n3_ := Aside0.mk (below_step (by repeat (first | (with_reducible first | exact HB.out | apply below_alloc | apply pw_below_drewN | apply below_drew1) | exact HB.out)) hb); clear HO_9; clear HO_10; clear HB; have HO_9 := n0_; have HO_10 := n1_; have HO232 := n2_; have HB := n3_; clear n0_ n1_ n2_ n3_; (try clear hb); (try clear hb2); (try clear hk); (try clear hi); (try clear ho0); obtain ⟨Ao43, co43, eo43⟩ := Kd.R_slice HO232.out; subst eo43) | ((with_reducible refine gate_callee (f := 24) rfl ?_); refine goesL_ (some 58) rfl rfl Try.func24 (by kernel_rfl) rfl #[.slice Ao20 t221.length co20, .slice Ao43 t230.length co43] rfl (by (try simp only [List.map_toArray, List.map_cons, List.map_nil]); first | done | rfl | (simp only [List.length_drop, List.length_take]; rfl)) ?_; (with_reducible refine (laws_eqNodeS.calls kj11 _ _ t221 _ _ t230 false _ ?side1 ?side2 ?side3 ?side4 A27.out).mono ?_); (case side1 => repeat (first | exact (Kd.R_reads' HO_9.out).2.2 | (with_reducible refine Kd.C_alloc ?_ _) | (with_reducible refine Kd.C_drewN ?_ _) | (with_reducible refine Kd.C_drew ?_))); (case side2 => exact (Kd.R_reads' HO_9.out).2.1); (case side3 => repeat (first | exact (Kd.R_reads' HO232.out).2.2 | (with_reducible refine Kd.C_alloc ?_ _) | (with_reducible refine Kd.C_drewN ?_ _) | (with_reducible refine Kd.C_drew ?_))); (case side4 => exact (Kd.R_reads' HO232.out).2.1); rintro e w44 ⟨rfl, hb⟩; refine ⟨_, rfl, ?_⟩; have n0_ := Aside0.mk (Kd.R_below (by (with_reducible repeat (first | apply Kd.R_alloc | apply Kd.R_drewN | apply Kd.R_drew)); exact HO_9.out) hb); have n1_ := Aside0.mk (Kd.R_below (by (with_reducible repeat (first | apply Kd.R_alloc | apply Kd.R_drewN | apply Kd.R_drew)); exact HO_10.out) hb); have n2_ := Aside0.mk (Kd.R_below (by (with_reducible repeat (first | apply Kd.R_alloc | apply Kd.R_drewN | apply Kd.R_drew)); exact HO232.out) hb); have n3_ := Aside0.mk (below_step (by repeat (first | (with_reducible first | exact HB.out | apply below_alloc | apply pw_below_drewN | apply below_drew1) | exact HB.out)) hb); clear HO_9; clear HO_10; clear HO232; clear HB; have HO_9 := n0_; have HO_10 := n1_; have HO232 := n2_; have HB := n3_; clear n0_ n1_ n2_ n3_; (try clear hb); (try clear hb2); (try clear hk); (try clear hi)))
              go_ret
              exact ⟨by first | rfl | (simp [errW_none, errW_some] <;> rfl) | (simp [*, errW_none, errW_some] <;> rfl), by repeat (first | (with_reducible first | exact HB.out | apply below_alloc | apply pw_below_drewN | apply below_drew1) | exact HB.out)⟩

end Go.Proofs.Ytlneknaiimmfmaa.PFnExactEvalTerm
