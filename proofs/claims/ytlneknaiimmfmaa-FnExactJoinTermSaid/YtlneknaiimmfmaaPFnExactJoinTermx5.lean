/- Functions of the program and of the reference as plain Lean functions, and what their calls come to; partly printed by a program, partly by hand; no condition beyond what each theorem says. -/
import Derived.Test.YtlneknaiimmfmaaPFnExactJoinTermx0
import Derived.Test.YtlneknaiimmfmaaPFnExactJoinTermx1
import Derived.Test.YtlneknaiimmfmaaPFnExactJoinTermx2
import Derived.Test.YtlneknaiimmfmaaPFnExactJoinTermx3
import Derived.Test.YtlneknaiimmfmaaPFnExactJoinTermx4
namespace Go.Proofs.Ytlneknaiimmfmaa.PFnExactJoinTerm
open Go.RowKit Go.Proofs.YtlneknaiimmfmaaW.PrintWords Go.Proofs.YtlneknaiimmfmaaW.PrintLast Go.Proofs.YtlneknaiimmfmaaW.PrintMore
attribute [local go_sem] max2_int min2_int max_two min_two max_three min_three max_four min_four   -- for this text's walks alone
set_option linter.unusedVariables false
set_option linter.unusedSimpArgs false

/-! ### impl.JoinTerm: function 65, by hand -/
/-- Some list is no good term. -/
def anyBad (ls : List (List S87)) : Bool := ls.any fun l => !(Tree.treeOf (toP l)).isSome
def impl_JoinTerm.f (a0 : Int) (l1 : List (List S87)) : Option (List S87 × Bool) :=
  if ((3 ≤ a0 ∧ a0 ≤ 11) ∧ (l1.length : Int) = Tree.arity a0) ∧ anyBad l1 = false then some (goodF (l1.flatten ++ [⟨a0, 0⟩])) else some ([], false)
theorem join_short {ls : List (List S87)} (h : anyBad ls = false) : ls.flatten.length ≤ 40 * ls.length := by
  unfold anyBad at h
  rw [List.any_eq_false] at h
  induction ls with
  | nil => simp
  | cons x t ih =>
    have h1 := h x (List.mem_cons_self ..)
    have h2 := ih (fun y hy => h y (List.mem_cons_of_mem _ hy))
    have h3 := (Tree.treeOf_ok (t := toP x) (by cases hh : (Tree.treeOf (toP x)).isSome with | true => rfl | false => rw [hh] at h1; exact absurd rfl h1)).2.1
    rw [toP_len] at h3
    simp only [List.flatten_cons, List.length_append, List.length_cons]
    omega
set_option maxHeartbeats 8000000 in
set_option maxRecDepth 100000 in
theorem JoinTerm_closure (A : Option Addr) (c : Nat) (l : List S87) (W : World) (h : Calls Try.prog 23 #[.slice A l.length c] W (fun e w' => e = .returned (.bool (Tree.treeOf (toP l)).isSome) ∧ Below W.heap.size W w')) :
    Calls Try.prog 109 #[.slice A l.length c] W fun e w' => e = .returned (.bool !(Tree.treeOf (toP l)).isSome) ∧ Below W.heap.size W w' := by
  generalize (Tree.treeOf (toP l)).isSome = b at h ⊢
  go_enter Try.func109, Try.ntmps109
  go_wp2_with (go_at_call 23; (with_reducible refine h.mono ?_); rintro e w' ⟨rfl, hb⟩; have HB := Aside0.mk hb; clear hb)
  go_ret
  exact ⟨rfl, HB.out⟩
set_option maxHeartbeats 8000000 in
set_option maxRecDepth 100000 in
theorem JoinTerm_bad (a0 : Int) (A1 : Option Addr) (c1 : Nat) (l1 : List (List S87)) (w : World) (hr1 : Kd.C (Kd.slice 87 k87) w A1 l1.length l1) (hc1 : l1.length ≤ c1)
    (h : ¬ (3 ≤ a0 ∧ a0 ≤ 11) ∨ ((3 ≤ a0 ∧ a0 ≤ 11) ∧ (l1.length : Int) ≠ Tree.arity a0) ∨ ((3 ≤ a0 ∧ a0 ≤ 11) ∧ (l1.length : Int) = Tree.arity a0 ∧ anyBad l1 = true)) :
    Calls Try.prog 65 #[.int .i64 a0, .slice A1 l1.length c1] w fun e w' => e = .returned (.tuple #[.slice none 0 0, .bool false]) ∧ Below w.heap.size w w' := by
  have hW := fun W => withinC a0 3 11 W
  have hA := fun W => arityC a0 W
  have eg : ∀ args w, (callFunc 109 args).run Try.prog w = .ok (.enter 109 args) w := enters_ Try.func109 (by kernel_rfl) rfl
  have HC : Aside0 (∀ W, Below w.heap.size w W → Calls Try.prog 106 #[.slice A1 l1.length c1, .func (.func 109) #[] #[]] W fun e w' => e = .returned (.bool (anyBad l1)) ∧ Below W.heap.size W w') :=
    ⟨fun W hW => ContainsFunc_rows A1 c1 l1 109 #[] (fun l => !(Tree.treeOf (toP l)).isSome) W (Kd.C_below hr1 hW) hc1 eg (badTerm_closure 109 JoinTerm_closure W)⟩
  clear hr1 hc1 eg
  rcases h with h | ⟨h, h2⟩ | ⟨h, h2, h3⟩
  · rw [decide_eq_false h] at hW
    clear h hA HC
    go_enter Try.func65, Try.ntmps65
    go_wp2_with (go_at_call 84; refine (hW _).mono ?_; rintro e w2 ⟨rfl, ⟨q, rfl⟩⟩)
    go_ret2
    exact ⟨rfl, pw_below_drewN (Below.refl _ _) q⟩
  · rw [decide_eq_true h] at hW
    have e1 : ((l1.length : Int) != Tree.arity a0) = true := by rw [bne_iff_ne]; exact h2
    clear h h2 HC
    generalize Tree.arity a0 = y at hA e1
    go_enter Try.func65, Try.ntmps65
    go_wp2_with (first | (go_at_call 84; refine (hW _).mono ?_; rintro e w2 ⟨rfl, ⟨q, rfl⟩⟩) | (go_at_call 108; refine (hA _).mono ?_; rintro e w2 ⟨rfl, ⟨q2, rfl⟩⟩))
    go_ret2
    exact ⟨rfl, by repeat (first | exact Below.refl _ _ | apply pw_below_drewN)⟩
  · rw [decide_eq_true h] at hW
    rw [h3] at HC
    have e1 : ((l1.length : Int) != Tree.arity a0) = false := by rw [bne_eq_false_iff_eq]; exact h2
    clear h h2 h3
    generalize Tree.arity a0 = y at hA e1
    go_enter Try.func65, Try.ntmps65
    go_wp2_with (first | (go_at_call 84; refine (hW _).mono ?_; rintro e w2 ⟨rfl, ⟨q, rfl⟩⟩) | (go_at_call 108; refine (hA _).mono ?_; rintro e w2 ⟨rfl, ⟨q2, rfl⟩⟩) | (go_at_call 106; refine (HC.out _ (by repeat (first | exact Below.refl _ _ | apply pw_below_drewN))).mono ?_; rintro e w3 ⟨rfl, hb⟩; have HB : Aside0 (Below w.heap.size w w3) := ⟨below_step (by repeat (first | exact Below.refl _ _ | apply pw_below_drewN)) hb⟩; clear hb))
    go_ret2
    exact ⟨rfl, HB.out⟩
set_option maxHeartbeats 8000000 in
set_option maxRecDepth 100000 in
theorem JoinTerm_good (a0 : Int) (A1 : Option Addr) (c1 : Nat) (l1 : List (List S87)) (w : World) (hr1 : Kd.C (Kd.slice 87 k87) w A1 l1.length l1) (hc1 : l1.length ≤ c1) (h : 3 ≤ a0 ∧ a0 ≤ 11) (h2 : (l1.length : Int) = Tree.arity a0) (h3 : anyBad l1 = false) :
    Calls Try.prog 65 #[.int .i64 a0, .slice A1 l1.length c1] w fun e w' => ∃ v0_ : Value, e = .returned (.tuple #[v0_, .bool (goodF (l1.flatten ++ [⟨a0, 0⟩])).2]) ∧ Kd.R k87 87 w' w.heap.size (fun _ => True) v0_ (goodF (l1.flatten ++ [⟨a0, 0⟩])).1 ∧ Below w.heap.size w w' := by
  have hW := fun W => withinC a0 3 11 W
  have hA := fun W => arityC a0 W
  have eg : ∀ args w, (callFunc 109 args).run Try.prog w = .ok (.enter 109 args) w := enters_ Try.func109 (by kernel_rfl) rfl
  have HC : Aside0 (∀ W, Below w.heap.size w W → Calls Try.prog 106 #[.slice A1 l1.length c1, .func (.func 109) #[] #[]] W fun e w' => e = .returned (.bool false) ∧ Below W.heap.size W w') :=
    ⟨fun W hW => by have := ContainsFunc_rows A1 c1 l1 109 #[] (fun l => !(Tree.treeOf (toP l)).isSome) W (Kd.C_below hr1 hW) hc1 eg (badTerm_closure 109 JoinTerm_closure W); rw [show (l1.any fun l => !(Tree.treeOf (toP l)).isSome) = false from h3] at this; exact this⟩
  have hr := Tree.arity_range a0
  have hsh := join_short h3
  have HCO : Aside0 (∀ W, Below w.heap.size w W → Calls Try.prog 102 #[.slice A1 l1.length c1] W fun e w' => ∃ v : Value, e = .returned v ∧ Kd.R k87 87 w' w.heap.size (fun _ => True) v l1.flatten ∧ Below w.heap.size w w') := ⟨fun W hW => (Concat_nodes A1 c1 l1 W (Kd.C_below hr1 hW) hc1 (by omega) (by omega)).mono fun e w' ⟨v, h1, h2, h3⟩ => ⟨v, h1, Kd.R_lower h2 hW.size, below_step hW h3⟩⟩
  have HFL : Aside0 (l1.flatten.length ≤ 200) := ⟨by omega⟩
  have HGL : Aside0 (∀ (W : World) (v : Value), Kd.R k87 87 W w.heap.size (fun _ => True) v (l1.flatten ++ [⟨a0, 0⟩]) → Below w.heap.size w W → Calls Try.prog 101 #[v] W fun e w' => ∃ v0 : Value, e = .returned (.tuple #[v0, .bool (goodF (l1.flatten ++ [⟨a0, 0⟩])).2]) ∧ Aside0 (Kd.R k87 87 w' w.heap.size (fun _ => True) v0 (goodF (l1.flatten ++ [⟨a0, 0⟩])).1 ∧ Below w.heap.size w w')) :=
    ⟨fun W v hR hW => (goodList_row v _ 0 w W hR hW).mono fun e w' ⟨v0, h1, h2, h3⟩ => ⟨v0, h1, ⟨h2, h3⟩⟩⟩
  generalize (goodF (l1.flatten ++ [⟨a0, 0⟩])).2 = gb at HGL ⊢
  generalize (goodF (l1.flatten ++ [⟨a0, 0⟩])).1 = gl at HGL ⊢
  rw [decide_eq_true h] at hW
  have e1 : ((l1.length : Int) != Tree.arity a0) = false := by rw [bne_eq_false_iff_eq]; exact h2
  clear h h2 h3 hr1 hc1 eg hr hsh
  generalize Tree.arity a0 = y at hA e1
  generalize l1.flatten = fl at HCO HFL HGL
  generalize l1.length = n1 at *
  go_enter Try.func65, Try.ntmps65
  go_wp2_with (first | (go_at_call 84; refine (hW _).mono ?_; rintro e w2 ⟨rfl, ⟨q, rfl⟩⟩) | (go_at_call 108; refine (hA _).mono ?_; rintro e w2 ⟨rfl, ⟨q2, rfl⟩⟩) | (go_at_call 106; refine (HC.out _ (by repeat (first | exact Below.refl _ _ | apply pw_below_drewN))).mono ?_; rintro e w3 ⟨rfl, hb⟩; have HB : Aside0 (Below w.heap.size w w3) := ⟨below_step (by repeat (first | exact Below.refl _ _ | apply pw_below_drewN)) hb⟩; clear hb) | (go_at_call 102; (with_reducible refine (HCO.out _ HB.out).mono ?_); rintro e w4 ⟨v4, rfl, hr, hb⟩; obtain ⟨A4, c4, rfl, -, -⟩ := Kd.R_reads hr; have R4 := Aside0.mk hr; have B4 := Aside0.mk hb; clear hr hb) | ((with_reducible refine gate_builtin (b := .append) (xs := #[.tmp 21, .tmp 24]) rfl ?_); at_builtin; refine Kd.R_append k87 (w0 := w) w.heap.size rfl (.tmp 21) (.tmp 24) 25 87 (.agg #[.int .i64 0, .int .i64 0]) 16 rfl Try.underlying25 info87 rfl (by decide) (by omega) _ fl (⟨a0, 0⟩ : S87) [.int .i64 a0, .int .i64 0] (fun _ => True) (fun _ => False) rfl rfl ?aP (fun _ hk => hk.elim) ?aF ?aO ?aB ?aS ?aL ?_; (case aP => exact k87_mkM _ _ _ (⟨a0, 0⟩ : S87)); (case aB => exact B4.out); (case aF => exact (fun _ _ => trivial)); (case aO => exact R4.out); (case aS => exact B4.out.size); (case aL => have := HFL.out; omega); intro v1 w5 ho hb hg hat; have R5 := Aside0.mk ho; have B5 := Aside0.mk hb; clear ho hb hg hat) | (go_at_call 101; (with_reducible refine (HGL.out _ _ R5.out B5.out).mono ?_); rintro e w6 ⟨v6, rfl, HZ⟩))
  go_ret2
  exact ⟨_, rfl, HZ.out.1, HZ.out.2⟩
theorem impl_JoinTerm.calls (a0 : Int) (A1 : Option Addr) (c1 : Nat) (l1 : List (List S87)) (r1 : List S87) (r2 : Bool) (w : World) (hr1 : Kd.C (Kd.slice 87 k87) w A1 l1.length l1) (hc1 : l1.length ≤ c1) (h : impl_JoinTerm.f a0 l1 = some (r1, r2)) :
    Calls Try.prog 65 #[.int .i64 a0, .slice A1 l1.length c1] w fun e w' => ∃ v0_ : Value, e = .returned (.tuple #[v0_, .bool r2]) ∧ Kd.R k87 87 w' w.heap.size (fun _ => True) v0_ r1 ∧ Below w.heap.size w w' := by
  unfold impl_JoinTerm.f at h
  by_cases hc : ((3 ≤ a0 ∧ a0 ≤ 11) ∧ (l1.length : Int) = Tree.arity a0) ∧ anyBad l1 = false
  · rw [if_pos hc] at h
    injection h with h
    have := JoinTerm_good a0 A1 c1 l1 w hr1 hc1 hc.1.1 hc.1.2 hc.2
    rw [h] at this
    exact this
  · rw [if_neg hc] at h
    obtain ⟨rfl, rfl⟩ : [] = r1 ∧ false = r2 := by simpa using h
    refine (JoinTerm_bad a0 A1 c1 l1 w hr1 hc1 ?_).mono ?_
    · by_cases h1 : 3 ≤ a0 ∧ a0 ≤ 11
      · by_cases h2 : (l1.length : Int) = Tree.arity a0
        · refine .inr (.inr ⟨h1, h2, ?_⟩)
          cases hb : anyBad l1 with
          | true => rfl
          | false => exact absurd ⟨⟨h1, h2⟩, hb⟩ hc
        · exact .inr (.inl ⟨h1, h2⟩)
      · exact .inl h1
    · rintro e w' ⟨rfl, hb⟩
      exact ⟨_, rfl, Kd.R_nil _ _ _ _ _, hb⟩

/-! ### laws.FnExactJoinTerm: function 15, by hand -/
/-- What a law holds while it goes on: the reference's list and the program's, apart from the argument's copy (blocks a to b). -/
structure Hold (w W : World) (a b : Nat) (v6 v9 : Value) (p q : List S87) : Prop where
  below : Below w.heap.size w W
  r6 : Kd.R k87 87 W w.heap.size (fun k => k < a) v6 p
  r9 : Kd.R k87 87 W w.heap.size (fun k => b ≤ k) v9 q
  lo : w.heap.size ≤ a
  ab : a ≤ b
  hi : b ≤ W.heap.size
theorem Hold.step {w W W' : World} {a b : Nat} {v6 v9 : Value} {p q : List S87} (h : Hold w W a b v6 v9 p q) (hb : Below W.heap.size W W') : Hold w W' a b v6 v9 p q :=
  ⟨below_step h.below hb, Kd.R_below h.r6 hb, Kd.R_below h.r9 hb, h.lo, h.ab, Nat.le_trans h.hi hb.size⟩
theorem Hold.drew {w W : World} {a b : Nat} {v6 v9 : Value} {p q : List S87} (h : Hold w W a b v6 v9 p q) (n : Nat) : Hold w (W.drewN n) a b v6 v9 p q := h.step (pw_below_drewN (Below.refl _ _) n)
theorem Hold.kept {w W W' : World} {a b : Nat} {v6 v9 : Value} {p q : List S87} (h : Hold w W a b v6 v9 p q) (hk : Kept W W' (fun k => a ≤ k ∧ k < b)) (hb : Below w.heap.size w W') : Hold w W' a b v6 v9 p q :=
  ⟨hb, Kd.R_kept h.r6 hk (fun k hk h2 => by have := h2.1; omega), Kd.R_kept h.r9 hk (fun k hk h2 => by have := h2.2; omega), h.lo, h.ab, Nat.le_trans h.hi hk.1⟩
theorem Hold.mark {w W W' : World} {a b : Nat} {v6 v9 : Value} {p q q' : List S87} (h : Hold w W a b v6 v9 p q) (hk : Kept W W' (fun k => b ≤ k)) (hr : Kd.R k87 87 W' w.heap.size (fun k => b ≤ k ∨ W.heap.size ≤ k) v9 q') (hb : Below w.heap.size w W') : Hold w W' a b v6 v9 p q' :=
  ⟨hb, Kd.R_kept h.r6 hk (fun k hk h2 => by have := h.ab; omega), Kd.R_mono hr (fun k hk => hk.elim id (fun h2 => Nat.le_trans h.hi h2)), h.lo, h.ab, Nat.le_trans h.hi hk.1⟩
theorem hold_start {w w1 w2 w3 w4 w5 : World} {v2 v3 v4 v5 : Value} {p1 q1 : List S87} {L : List (List S87)} (B1 : Aside0 (Below w.heap.size w w1)) (Z2 : Aside0 (Kd.S (Kd.slice 87 k87) 25 w2 w1.heap.size (fun _ => True) v2 L ∧ Below w1.heap.size w1 w2))
    (Z3 : Aside0 (Kd.R k87 87 w3 w2.heap.size (fun _ => True) v3 p1 ∧ Below w2.heap.size w2 w3)) (Z4 : Aside0 (Kd.S (Kd.slice 87 k87) 25 w4 w3.heap.size (fun _ => True) v4 L ∧ Below w3.heap.size w3 w4)) (Z5 : Aside0 (Kd.R k87 87 w5 w4.heap.size (fun _ => True) v5 q1 ∧ Below w4.heap.size w4 w5)) :
    Aside0 (Hold w w5 w3.heap.size w4.heap.size v3 v5 p1 q1) := by
  have b2 := below_step B1.out Z2.out.2
  have b3 := below_step b2 Z3.out.2
  have b4 := below_step b3 Z4.out.2
  refine ⟨below_step b4 Z5.out.2, ?_, ?_, b3.size, Z4.out.2.size, Z5.out.2.size⟩
  · exact Kd.R_below (Kd.R_below (Kd.R_lower (Kd.R_mono (ok' := fun k => k < w3.heap.size) (Kd.R_bound Z3.out.1) (fun k hk => hk.2.2.1)) b2.size) Z4.out.2) Z5.out.2
  · exact Kd.R_lower (Kd.R_mono (ok' := fun k => w4.heap.size ≤ k) (Kd.R_bound Z5.out.1) (fun k hk => hk.2.1)) b4.size
def laws_FnExactJoinTerm.f (k : Nat) (a0 : Int) (l1 : List (List S90)) : Option Bool :=
  (laws_szNodeSS.f k l1 1048576).bind fun t => if t < 0 then some true else
    (laws_toNodeSS.f k l1).bind fun L => (spec_JoinTerm.f k a0 L).bind fun p => (impl_JoinTerm.f a0 L).bind fun q =>
      (laws_eqNodeS.f k q.1 p.1).bind fun e1 => (laws_eqNodeSS.f k L L).bind fun e2 => (laws_markNodeS.f k q.1 1).bind fun m => (laws_heldNodeS.f k m.2 1).bind fun h =>
        if (e1 = true ∧ e2 = true ∧ q.2 = p.2) ∧ L.length ≤ 100000000 ∧ L.flatten.length ≤ 100000000 ∧ 0 ≤ h ∧ h = m.1 then some true else none
set_option maxHeartbeats 8000000 in
set_option maxRecDepth 100000 in
theorem laws_FnExactJoinTerm.calls (k : Nat) (a0 : Int) (A1 : Option Addr) (c1 : Nat) (l1 : List (List S90)) (r : Bool) (w : World) (hr1 : Kd.C (Kd.slice 90 k90) w A1 l1.length l1) (hc1 : l1.length ≤ c1) (h : laws_FnExactJoinTerm.f k a0 l1 = some r) :
    Calls Try.prog 15 #[.int .i64 a0, .slice A1 l1.length c1] w fun e w' => e = .returned (.bool r) ∧ Below w.heap.size w w' := by
  unfold laws_FnExactJoinTerm.f at h
  obtain ⟨t, ht, h⟩ := Option.bind_eq_some_iff.1 h
  have HSZ : Aside0 (Calls Try.prog 58 #[.slice A1 l1.length c1, .int .i64 1048576] w fun e w' => e = .returned (.int .i64 t) ∧ Below w.heap.size w w') := ⟨(laws_szNodeSS.calls k A1 c1 l1 1048576 t w hr1 hc1 ht).mono fun e w' ⟨h, k⟩ => ⟨h, k.below⟩⟩
  by_cases htn : t < 0
  · rw [if_pos htn] at h
    obtain rfl := Option.some.inj h
    clear h ht hr1 hc1
    go_enter Try.func15, Try.ntmps15
    go_wp2_with (go_at_call 58; (with_reducible refine HSZ.out.mono ?_); rintro e w1 ⟨rfl, hb⟩; have HB := Aside0.mk hb; clear hb)
    go_ret
    exact ⟨rfl, HB.out⟩
  · rw [if_neg htn] at h
    obtain ⟨L, hto, h⟩ := Option.bind_eq_some_iff.1 h
    obtain ⟨p, hsp, h⟩ := Option.bind_eq_some_iff.1 h
    obtain ⟨q, him, h⟩ := Option.bind_eq_some_iff.1 h
    obtain ⟨e1, he1, h⟩ := Option.bind_eq_some_iff.1 h
    obtain ⟨e2, he2, h⟩ := Option.bind_eq_some_iff.1 h
    obtain ⟨m, hma, h⟩ := Option.bind_eq_some_iff.1 h
    obtain ⟨hh, hhe, h⟩ := Option.bind_eq_some_iff.1 h
    by_cases hc : (e1 = true ∧ e2 = true ∧ q.2 = p.2) ∧ L.length ≤ 100000000 ∧ L.flatten.length ≤ 100000000 ∧ 0 ≤ hh ∧ hh = m.1
    · rw [if_pos hc] at h
      obtain rfl := Option.some.inj h
      obtain ⟨⟨rfl, rfl, hqp⟩, hL1, hL2, hh0, hhm⟩ := hc
      obtain ⟨p1, pb⟩ := p
      obtain ⟨q1, qb⟩ := q
      obtain ⟨m1, m2⟩ := m
      simp only at hqp hhm he1 hma hhe
      subst hqp hhm
      obtain ⟨M, hM⟩ : ∃ M : Nat, M = 1 + 2 * L.flatten.length := ⟨_, rfl⟩
      have HTO : Aside0 (∀ W, Below w.heap.size w W → Calls Try.prog 60 #[.slice A1 l1.length c1] W fun e w' => ∃ A c, e = .returned (.slice A L.length c) ∧ Aside0 (Kd.S (Kd.slice 87 k87) 25 w' W.heap.size (fun _ => True) (.slice A L.length c) L ∧ Below W.heap.size W w')) := by
        refine ⟨fun W hW => (laws_toNodeSS.calls k A1 c1 l1 L W (Kd.C_below hr1 hW) hc1 hto).mono ?_⟩
        rintro e w' ⟨v, rfl, hS, hb⟩
        obtain ⟨A, c, rfl, -, -⟩ := Kd.S_reads hS
        exact ⟨A, c, rfl, ⟨hS, hb⟩⟩
      have HSP : Aside0 (∀ W W0 A c, Kd.S (Kd.slice 87 k87) 25 W W0 (fun _ => True) (.slice A L.length c) L → Calls Try.prog 64 #[.int .i64 a0, .slice A L.length c] W fun e w' => ∃ v6, e = .returned (.tuple #[v6, .bool qb]) ∧ Aside0 (Kd.R k87 87 w' W.heap.size (fun _ => True) v6 p1 ∧ Below W.heap.size W w')) := by
        refine ⟨fun W W0 A c hS => ?_⟩
        obtain ⟨_, hlc, hC⟩ := Kd.S_reads' hS
        exact (spec_JoinTerm.calls k a0 A c L p1 qb W hC hlc hsp).mono fun e w' ⟨v, h1, h2, h3⟩ => ⟨v, h1, ⟨h2, h3⟩⟩
      have HIM : Aside0 (∀ W W0 A c, Kd.S (Kd.slice 87 k87) 25 W W0 (fun _ => True) (.slice A L.length c) L → Calls Try.prog 65 #[.int .i64 a0, .slice A L.length c] W fun e w' => ∃ v6, e = .returned (.tuple #[v6, .bool qb]) ∧ Aside0 (Kd.R k87 87 w' W.heap.size (fun _ => True) v6 q1 ∧ Below W.heap.size W w')) := by
        refine ⟨fun W W0 A c hS => ?_⟩
        obtain ⟨_, hlc, hC⟩ := Kd.S_reads' hS
        exact (impl_JoinTerm.calls a0 A c L q1 qb W hC hlc him).mono fun e w' ⟨v, h1, h2, h3⟩ => ⟨v, h1, ⟨h2, h3⟩⟩
      have HEQ : Aside0 (∀ W a b v6 v9, Hold w W a b v6 v9 p1 q1 → Calls Try.prog 24 #[v9, v6] W fun e w' => e = .returned (.bool true) ∧ Aside0 (Hold w w' a b v6 v9 p1 q1 ∧ Below W.heap.size W w')) := by
        refine ⟨fun W a b v6 v9 hH => ?_⟩
        obtain ⟨A6, c6, rfl, h6, C6⟩ := Kd.R_reads hH.r6
        obtain ⟨A9, c9, rfl, h9, C9⟩ := Kd.R_reads hH.r9
        refine (laws_eqNodeS.calls k A9 c9 q1 A6 c6 p1 true W C9 h9 C6 h6 he1).mono ?_
        rintro e w' ⟨rfl, hd⟩
        exact ⟨rfl, ⟨hH.step hd, hd⟩⟩
      have HEQ2 : Aside0 (∀ W a b v6 v9 v14 b0, Hold w W a b v6 v9 p1 m2 → Kd.R k87 87 W b0 (fun _ => True) v14 q1 → Calls Try.prog 24 #[v14, v6] W fun e w' => e = .returned (.bool true) ∧ Aside0 (Hold w w' a b v6 v9 p1 m2)) := by
        refine ⟨fun W a b v6 v9 v14 b0 hH hR => ?_⟩
        obtain ⟨A6, c6, rfl, h6, C6⟩ := Kd.R_reads hH.r6
        obtain ⟨A9, c9, rfl, h9, C9⟩ := Kd.R_reads hR
        refine (laws_eqNodeS.calls k A9 c9 q1 A6 c6 p1 true W C9 h9 C6 h6 he1).mono ?_
        rintro e w' ⟨rfl, hd⟩
        exact ⟨rfl, ⟨hH.step hd⟩⟩
      have HES : Aside0 (∀ W W0 W1 A c A' c', Kd.S (Kd.slice 87 k87) 25 W W0 (fun _ => True) (.slice A L.length c) L → Kd.S (Kd.slice 87 k87) 25 W W1 (fun _ => True) (.slice A' L.length c') L → Calls Try.prog 62 #[.slice A L.length c, .slice A' L.length c'] W fun e w' => e = .returned (.bool true) ∧ Aside0 (Below W.heap.size W w')) := by
        refine ⟨fun W W0 W1 A c A' c' hS hS' => ?_⟩
        obtain ⟨_, h1, C1⟩ := Kd.S_reads' hS
        obtain ⟨_, h2, C2⟩ := Kd.S_reads' hS'
        exact (laws_eqNodeSS.calls k A c L A' c' L true W C1 h1 C2 h2 he2).mono fun e w' ⟨h, k⟩ => ⟨h, ⟨k⟩⟩
      have HMS : Aside0 (∀ W a b v6 v9 A c, Hold w W a b v6 v9 p1 q1 → Kd.S (Kd.slice 87 k87) 25 W w.heap.size (fun k => a ≤ k ∧ k < b) (.slice A L.length c) L → Calls Try.prog 63 #[.slice A L.length c, .int .i64 1] W fun e w' => e = .returned (.int .i64 (M : Int)) ∧ Aside0 (Hold w w' a b v6 v9 p1 q1)) := by
        refine ⟨fun W a b v6 v9 A c hH hS => ?_⟩
        have := markNodeSS_told (fun k => a ≤ k ∧ k < b) (.slice A L.length c) L 1 w W hH.below hS hL1 (by omega)
        rw [← hM] at this
        refine this.mono ?_
        rintro e w' ⟨rfl, h1, h2⟩
        exact ⟨rfl, ⟨hH.kept h2 h1⟩⟩
      have HMA : Aside0 (∀ W a b v6 v9, Hold w W a b v6 v9 p1 q1 → Calls Try.prog 34 #[v9, .int .i64 1] W fun e w' => e = .returned (.int .i64 hh) ∧ Aside0 (Hold w w' a b v6 v9 p1 m2)) := by
        refine ⟨fun W a b v6 v9 hH => ?_⟩
        refine (laws_markNodeS.calls k _ v9 q1 1 hh m2 w W hH.below hH.r9 hma).mono ?_
        rintro e w' ⟨rfl, h1, h2, h3⟩
        exact ⟨rfl, ⟨hH.mark h3 h1 h2⟩⟩
      have HHE : Aside0 (∀ W a b v6 v9, Hold w W a b v6 v9 p1 m2 → Calls Try.prog 35 #[v9, .int .i64 1] W fun e w' => e = .returned (.int .i64 hh) ∧ Aside0 (Hold w w' a b v6 v9 p1 m2)) := by
        refine ⟨fun W a b v6 v9 hH => ?_⟩
        obtain ⟨A9, c9, rfl, h9, C9⟩ := Kd.R_reads hH.r9
        refine (laws_heldNodeS.calls k A9 c9 m2 1 hh W C9 h9 hhe).mono ?_
        rintro e w' ⟨rfl, hd⟩
        exact ⟨rfl, ⟨hH.step hd.below⟩⟩
      have n1 : (t < 0) = False := eq_false htn
      have n2 : ((M : Int) < 0) = False := eq_false (by omega)
      have n3 : (hh < 0) = False := eq_false (by omega)
      clear hr1 hc1 hto hsp him he1 he2 hma hhe hM hL1 hL2 hh0 h ht htn
      generalize L.length = nL at *
      have tok1 : True := trivial
      go_enter Try.func15, Try.ntmps15
      go_wp2_with (first
        | (go_at_call 58; (with_reducible refine HSZ.out.mono ?_); rintro e w1 ⟨rfl, hb⟩; have B1 := Aside0.mk hb; clear hb)
        | (go_at_call 60; have _t := tok1; (with_reducible refine (HTO.out _ B1.out).mono ?_); rintro e w2 ⟨A2, c2, rfl, Z2⟩; clear _t tok1; have tok2 : True := trivial)
        | (go_at_call 64; (with_reducible refine (HSP.out _ _ _ _ Z2.out.1).mono ?_); rintro e w3 ⟨v3, rfl, Z3⟩)
        | (go_at_call 60; have _t := tok2; (with_reducible refine (HTO.out _ (below_step (below_step B1.out Z2.out.2) Z3.out.2)).mono ?_); rintro e w4 ⟨A4, c4, rfl, Z4⟩; clear _t tok2; have tok3 : True := trivial)
        | (go_at_call 65; have _t := tok3; (with_reducible refine (HIM.out _ _ _ _ Z4.out.1).mono ?_); rintro e w5 ⟨v5, rfl, Z5⟩; have H5 := hold_start B1 Z2 Z3 Z4 Z5; have S5 := Aside0.mk (Kd.S_below (Kd.S_mono (ok' := fun k => w3.heap.size ≤ k ∧ k < w4.heap.size) (Kd.S_bound Z4.out.1) (fun k hk => ⟨hk.2.1, hk.2.2.1⟩)) Z5.out.2); clear _t tok3; have tok4 : True := trivial)
        | (go_at_call 24; have _t := tok4; (with_reducible refine (HEQ.out _ _ _ _ _ H5.out).mono ?_); rintro e w6 ⟨rfl, Z6⟩; clear _t tok4; have tok5 : True := trivial)
        | (go_at_call 60; have _t := tok5; (with_reducible refine (HTO.out _ Z6.out.1.below).mono ?_); rintro e w7 ⟨A7, c7, rfl, Z7⟩; clear _t tok5; have tok6 : True := trivial)
        | (go_at_call 62; have S7 := Aside0.mk (Kd.S_below S5.out (below_step Z6.out.2 Z7.out.2)); (with_reducible refine (HES.out _ _ _ _ _ _ _ (Kd.S_mono S7.out (fun _ _ => trivial)) Z7.out.1).mono ?_); rintro e w8 ⟨rfl, Z8⟩; have H8 := Aside0.mk ((Z6.out.1.step Z7.out.2).step Z8.out); have S8 := Aside0.mk (Kd.S_lower (Kd.S_below S7.out Z8.out) (below_size (below_step (below_step B1.out Z2.out.2) Z3.out.2))))
        | (go_at_call 63; (with_reducible refine (HMS.out _ _ _ _ _ _ _ H8.out S8.out).mono ?_); rintro e w9 ⟨rfl, H9⟩; clear tok6; have tok7 : True := trivial)
        | (go_at_call 24; have _t := tok7; (with_reducible refine (HEQ.out _ _ _ _ _ H9.out).mono ?_); rintro e w10 ⟨rfl, Z10⟩; clear _t tok7; have tok8 : True := trivial)
        | (go_at_call 34; (with_reducible refine (HMA.out _ _ _ _ _ Z10.out.1).mono ?_); rintro e w11 ⟨rfl, H11⟩)
        | (go_at_call 35; have _t := tok8; (with_reducible refine (HHE.out _ _ _ _ _ H11.out).mono ?_); rintro e w12 ⟨rfl, H12⟩; clear _t tok8; have tok9 : True := trivial)
        | (go_at_call 60; have _t := tok9; (with_reducible refine (HTO.out _ H12.out.below).mono ?_); rintro e w13 ⟨A13, c13, rfl, Z13⟩; clear _t tok9; have tok10 : True := trivial)
        | (go_at_call 65; have _t := tok10; (with_reducible refine (HIM.out _ _ _ _ Z13.out.1).mono ?_); rintro e w14 ⟨v14, rfl, Z14⟩; have H14 := Aside0.mk ((H12.out.step Z13.out.2).step Z14.out.2); clear _t tok10; have tok11 : True := trivial)
        | (go_at_call 24; have _t := tok11; (with_reducible refine (HEQ2.out _ _ _ _ _ _ _ H14.out Z14.out.1).mono ?_); rintro e w15 ⟨rfl, H15⟩; clear _t tok11; have tok12 : True := trivial)
        | (go_at_call 35; have _t := tok12; (with_reducible refine (HHE.out _ _ _ _ _ H15.out).mono ?_); rintro e w16 ⟨rfl, H16⟩; clear _t tok12))
      go_ret
      exact ⟨rfl, H16.out.below⟩
    · rw [if_neg hc] at h
      exact absurd h (by simp)

end Go.Proofs.Ytlneknaiimmfmaa.PFnExactJoinTerm
