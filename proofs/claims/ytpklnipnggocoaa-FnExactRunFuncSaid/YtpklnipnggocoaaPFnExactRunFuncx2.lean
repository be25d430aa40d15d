/- Functions of the program and of the reference as plain Lean functions, and what their calls come to; partly printed by a program, partly by hand; no condition beyond what each theorem says. -/
import Derived.Test.YtpklnipnggocoaaPFnExactRunFuncx0
import Derived.Test.YtpklnipnggocoaaPFnExactRunFuncx1
namespace Go.Proofs.Ytpklnipnggocoaa.PFnExactRunFunc
open Go.RowKit Go.Proofs.YtpklnipnggocoaaW.PrintWords Go.Proofs.YtpklnipnggocoaaW.PrintLast Go.Proofs.YtpklnipnggocoaaW.PrintMore
attribute [local go_sem] max2_int min2_int max_two min_two max_three min_three max_four min_four
set_option linter.unusedVariables false
set_option linter.unusedSimpArgs false
set_option maxHeartbeats 8000000
set_option maxRecDepth 100000

section
variable {P : Program} {ops : Array Oper} {Q : Exit → Act → World → Prop} {md : Region.Mode} {S : World → Prop} {l : Nat}
def HeldTill (P : Program) (md : Region.Mode) (ops : Array Oper) (Q : Exit → Act → World → Prop) (S : World → Prop) (l : Nat) : Nat → Array Bool → Act → World → Prop
 | 0, listed, a, w => Region.ready md ops listed = [] ∧ Q .normal a w
 | n + 1, listed, a, w => (Region.ready md ops listed = [] → Q .normal a w) ∧ ∀ j ∈ Region.ready md ops listed, wpOp P ops Q j (fun a' w' => (j ≠ l → S w') ∧ HeldTill P md ops Q S l n (listed.setIfInBounds j true) a' w') a w
theorem HeldTill.any : ∀ (n : Nat) (listed : Array Bool) (a : Act) (w : World), HeldTill P md ops Q S l n listed a w → wpAny P md ops Q n listed a w
 | 0, _, _, _, h => h
 | n + 1, _, _, _, h => ⟨h.1, fun j hj => wpOp_mono (fun a' w' h' => HeldTill.any n _ a' w' h'.2) (h.2 j hj)⟩
theorem HeldTill.first {i : Nat} {oi : Oper} {v : Value} (hi : ops[i]? = some oi) (hsel : ∀ (j : Nat) (o : Oper) cs b, ops[j]? = some o → o.op ≠ .select cs b)
  (hQ : ∀ c a w, Q (.panic c) (a.put oi.dst v) w → Q (.panic c) a w) (hl : ∃ ol, ops[l]? = some ol ∧ ∃ e ∈ ol.after, Region.binds md e = true ∧ e.on = i) :
  ∀ (n : Nat) (listed : Array Bool) (a : Act) (w : World),
   (∀ j oj, ops[j]? = some oj → j ≠ i → listed.getD j true = false → (∀ e ∈ oj.after, Region.binds md e = true → e.on ≠ i) → oi.apart ops oj = true) →
   i ∈ Region.ready md ops listed → YieldsIf P ops S oi v a → S w →
   HeldTill P md ops Q S l n (listed.setIfInBounds i true) (a.put oi.dst v) w → HeldTill P md ops Q S l (n + 1) listed a w := by
 intro n
 induction n with
 | zero =>
  intro listed a w _ hr hy hS H
  refine ⟨fun h => (by rw [h] at hr; cases hr), fun j hj => ?_⟩
  by_cases hji : j = i
  (focus ((subst hji; exact hy.wpOp hi hS ⟨fun _ => hS, H⟩)))
  ·have := ready_mono hj hji
   rw [H.1] at this
   cases this
 | succ n ih =>
  intro listed a w hfree hr hy hS H
  refine ⟨fun h => (by rw [h] at hr; cases hr), fun j hj => ?_⟩
  by_cases hji : j = i
  (focus ((subst hji; exact hy.wpOp hi hS ⟨fun _ => hS, H⟩)))
  ·have h1 := H.2 j (ready_mono hj hji)
   obtain ⟨hjun, oj, hoj, hall⟩ := mem_ready.1 hj
   have hnot : ∀ e ∈ oj.after, Region.binds md e = true → e.on ≠ i := fun e he hb heq => by
    have h1 := hall e he hb
    have h0 := (mem_ready.1 hr).1
    rw [heq] at h1
    rcases Nat.lt_or_ge i listed.size with h' | h'
    (focus ((simp [h'] at h0 h1; rw [h0] at h1; cases h1)))
    (focus ((simp [Array.getElem?_eq_none h'] at h1)))
   have hjl : j ≠ l := by
    rintro rfl
    obtain ⟨ol, hol, e, he, hb, heq⟩ := hl
    rw [hoj] at hol
    injection hol with hol
    subst hol
    exact hnot e he hb heq
   have h2 := wpOp_putIf hoj (hfree j oj hoj hji hjun hnot) (fun cs b => hsel i oi cs b hi) (fun cs b => hsel j oj cs b hoj) hQ hy h1
   have hfree' : ∀ k ok, ops[k]? = some ok → k ≠ i → (listed.setIfInBounds j true).getD k true = false →
     (∀ e ∈ ok.after, Region.binds md e = true → e.on ≠ i) → oi.apart ops ok = true := fun k ok hk hki hun hno => by
    refine hfree k ok hk hki ?_ hno
    by_cases hjk : j = k
    (focus ((subst hjk; exact hjun)))
    (focus ((rw [getD_set_ne true hjk] at hun; exact hun)))
   refine wpOp_mono (fun a' w' h3 => ⟨fun _ => h3.2.1 hjl, ih (listed.setIfInBounds j true) a' w' hfree' (ready_mono hr (Ne.symm hji)) h3.1 (h3.2.1 hjl) ?_⟩) h2
   rw [Array.setIfInBounds_comm _ _ hji]
   exact h3.2.2
theorem HeldTill.take {i : Nat} {oi : Oper} {v : Value} {n : Nat} {listed : Array Bool} {a : Act} {w : World} (hi : ops[i]? = some oi)
  (hs : Region.noSelect ops = true) (hf : Region.free md ops listed i = true) (hr : (Region.ready md ops listed).contains i = true)
  (hl : ((ops[l]?).map fun ol => ol.after.any fun e => Region.binds md e && e.on == i) = some true)
  (hQ : ∀ c a w, Q (.panic c) (a.put oi.dst v) w → Q (.panic c) a w) (hy : YieldsIf P ops S oi v a) (hS : S w)
  (h : HeldTill P md ops Q S l n (listed.setIfInBounds i true) (a.put oi.dst v) w) : HeldTill P md ops Q S l (n + 1) listed a w := by
 (refine HeldTill.first hi (Region.noSelect_spec hs) hQ ?_ n listed a w (Region.free_spec hi hf) (by simpa using hr) hy hS h); (obtain ⟨ol, hol, ha⟩ := Option.map_eq_some_iff.1 hl); (rw [Array.any_eq_true'] at ha); (obtain ⟨e, he, hb⟩ := ha); (rw [Bool.and_eq_true, beq_iff_eq] at hb); (exact ⟨ol, hol, e, he, hb.1, hb.2⟩)
theorem HeldTill.only {i : Nat} {oi : Oper} {v : Value} {n : Nat} {listed : Array Bool} {a : Act} {w : World} (hi : ops[i]? = some oi) (hr : Region.ready md ops listed = [i]) (hy : YieldsIf P ops S oi v a) (hS : S w)
  (h : HeldTill P md ops Q S l n (listed.setIfInBounds i true) (a.put oi.dst v) w) : HeldTill P md ops Q S l (n + 1) listed a w := by
 (refine ⟨fun h0 => (by rw [hr] at h0; cases h0), fun j hj => ?_⟩); (rw [hr] at hj); (obtain rfl := List.mem_singleton.1 hj); (exact hy.wpOp hi hS ⟨fun _ => hS, h⟩)
theorem HeldTill.step {i : Nat} {o : Oper} {n : Nat} {listed : Array Bool} {a : Act} {w : World} (hr : Region.ready md ops listed = [i]) (ho : ops[i]? = some o)
  (h : ∀ K' : Act → World → Prop, Shut (∀ a w, S w → (S w → HeldTill P md ops Q S l n (listed.setIfInBounds i true) a w) → K' a w) → if Region.wanted o (yielded ops a.tmps) = true then Oper.wp P o a w K' Q else K' (a.put o.dst undef) w) :
  HeldTill P md ops Q S l (n + 1) listed a w := by
 (refine ⟨fun h0 => (by rw [hr] at h0; cases h0), fun j hj => ?_⟩); (rw [hr] at hj); (obtain rfl := List.mem_singleton.1 hj); (exact wpOp_step ho (fun K' hK => h K' (fun a w hS hW => hK a w ⟨fun _ => hS, hW hS⟩)))
theorem HeldTill.last {o : Oper} {n : Nat} {listed : Array Bool} {a : Act} {w : World} (hr : Region.ready md ops listed = [l]) (ho : ops[l]? = some o) (hd : Region.ready md ops (listed.setIfInBounds l true) = [])
  (h : ∀ K' : Act → World → Prop, Shut (∀ a w, Q .normal a w → K' a w) → if Region.wanted o (yielded ops a.tmps) = true then Oper.wp P o a w K' Q else K' (a.put o.dst undef) w) :
  HeldTill P md ops Q S l (n + 1) listed a w := by
 (refine ⟨fun h0 => (by rw [hr] at h0; cases h0), fun j hj => ?_⟩); (rw [hr] at hj); (obtain rfl := List.mem_singleton.1 hj); (refine wpOp_step ho (fun K' hK => h K' (fun a w hq => hK a w ⟨fun h => absurd rfl h, ?_⟩)))
 cases n with
 | zero => exact ⟨hd, hq⟩
 | succ n => exact ⟨fun _ => hq, fun j hj => by rw [hd] at hj; cases hj⟩
theorem region_held_till {id : Nat} {a : Act} {w : World} (l : Nat) (hm : P.follows .mixedOrders = true) (hS : S w.drew)
  (h : S w.drew → HeldTill P .any ops Q S l ops.size (Array.replicate ops.size false) a w.drew) : (Code.region id ops true).wp P Q a w := by
 (have := HeldTill.any _ _ _ _ (h hS)); (exact wp_region_any hm this)
end
theorem within_told (x a b : Int) (W : World) : Calls Try.prog 33 #[.int .i64 x, .int .i64 a, .int .i64 b] W fun e w' => e = .returned (.bool (decide (a ≤ x ∧ x ≤ b))) ∧ Below W.heap.size W w' := by
 (refine (impl_within.calls x a b (decide (a ≤ x ∧ x ≤ b)) W ?_).mono fun e w' ⟨h1, ⟨q, h2⟩⟩ => ⟨h1, by subst h2; exact pw_below_drewN (Below.refl _ _) _⟩); (unfold impl_within.f); (by_cases h : x ≥ a)
 (focus ((rw [if_pos h]; congr 1; simp only [decide_eq_decide]; omega))); (focus ((rw [if_neg h, decide_eq_false (by omega)])))
structure Vw (w W : World) (gv : Nat) (p : Int) (AB : Option Addr) (n cB : Nat) (v2 v3 : Value) (tot : Int) (fs lb : List Int) : Prop where
 bk : W.heap[gv]? = some (.cells #[.int .i64 p, .slice AB n cB, v2, v3, .int .i64 tot] 57 (0, 0))
 r2 : (Kd.int .i64).R 3 W w.heap.size (fun k => k ≠ gv) v2 fs
 r3 : (Kd.int .i64).R 3 W w.heap.size (fun k => k ≠ gv) v3 lb
 ne : ∀ k, v2.ownBlock = some k → v3.ownBlock ≠ some k
 hb : Below w.heap.size w W
 hg : w.heap.size ≤ gv
section
variable {w W W' w1 : World} {gv : Nat} {p : Int} {AB : Option Addr} {n cB : Nat} {v2 v3 v' : Value} {tot : Int} {fs lb xs : List Int}
theorem Vw.below (h : Vw w W gv p AB n cB v2 v3 tot fs lb) (hb : Below W.heap.size W W') : Vw w W' gv p AB n cB v2 v3 tot fs lb :=
 ⟨blk_below h.bk hb, Kd.R_below h.r2 hb, Kd.R_below h.r3 hb, h.ne, below_step h.hb hb, h.hg⟩
theorem Vw.app2 (h : Vw w W gv p AB n cB v2 v3 tot fs lb) (hR : (Kd.int .i64).R 3 w1 w.heap.size (fun k => k ≠ gv) v' xs) (hB : Below w.heap.size w w1) (hg : W.grownBy w1 v2.ownBlock)
  (hat : v'.ownBlock = v2.ownBlock ∨ ∃ b, v'.ownBlock = some b ∧ W.heap.size ≤ b) : w1.heap[gv]? = some (.cells #[.int .i64 p, .slice AB n cB, v2, v3, .int .i64 tot] 57 (0, 0)) ∧ Vw w (w1.setCell ⟨gv, 2, none⟩ v') gv p AB n cB v' v3 tot xs lb := by
 (have ng : some gv ≠ v2.ownBlock := fun e => h.r2.1 gv e.symm rfl); (have b1 := blk_grown h.bk hg ng); (have r3 := Kd.R_grown2 h.r3 rfl hg (fun k hk he => h.ne k hk he.symm)); (refine ⟨b1, blk_set b1 2 v', Kd.R_far hR (fun k hk => hk) _, Kd.R_far r3 (fun k hk => hk) _, ?_, below_set hB h.hg, h.hg⟩); (intro k hk he)
 rcases hat with e | ⟨b, e, hb⟩
 (focus ((exact h.ne k (e.symm.trans hk) he))); (focus ((rw [e] at hk); (injection hk with hk); (subst hk); (have := Kd.R_lt h.r3 _ he); (omega)))
theorem Vw.app3 (h : Vw w W gv p AB n cB v2 v3 tot fs lb) (hR : (Kd.int .i64).R 3 w1 w.heap.size (fun k => k ≠ gv) v' xs) (hB : Below w.heap.size w w1) (hg : W.grownBy w1 v3.ownBlock)
  (hat : v'.ownBlock = v3.ownBlock ∨ ∃ b, v'.ownBlock = some b ∧ W.heap.size ≤ b) : w1.heap[gv]? = some (.cells #[.int .i64 p, .slice AB n cB, v2, v3, .int .i64 tot] 57 (0, 0)) ∧ Vw w (w1.setCell ⟨gv, 3, none⟩ v') gv p AB n cB v2 v' tot fs xs := by
 (have ng : some gv ≠ v3.ownBlock := fun e => h.r3.1 gv e.symm rfl); (have b1 := blk_grown h.bk hg ng); (have r2 := Kd.R_grown2 h.r2 rfl hg (fun k hk he => h.ne k he.symm hk)); (refine ⟨b1, blk_set b1 3 v', Kd.R_far r2 (fun k hk => hk) _, Kd.R_far hR (fun k hk => hk) _, ?_, below_set hB h.hg, h.hg⟩); (intro k hk he)
 rcases hat with e | ⟨b, e, hb⟩
 (focus ((exact h.ne k hk (e.symm.trans he)))); (focus ((rw [e] at he); (injection he with he); (subst he); (have := Kd.R_lt h.r2 _ hk); (omega)))
theorem Vw.put (h : Vw w W gv p AB n cB v2 v3 tot fs lb) (t : Int) : Vw w (W.setCell ⟨gv, 4, none⟩ (.int .i64 t)) gv p AB n cB v2 v3 t fs lb :=
 ⟨blk_set h.bk 4 _, Kd.R_far h.r2 (fun k hk => hk) _, Kd.R_far h.r3 (fun k hk => hk) _, h.ne, below_set h.hb h.hg, h.hg⟩
end
def stepB (b : S66) : Bool := decide (0 ≤ b.f0 ∧ b.f0 ≤ 4) && decide (b.f1.length ≤ 80)
def sizeB (b : S66) : Int := b.f0 + (b.f1.length : Int)
def totB (p : Int) : List S66 → Int | [] => p | b :: l => totB (p + sizeB b) l
def firstsB (p : Int) : List S66 → List Int | [] => [] | b :: l => p :: firstsB (p + sizeB b) l
def NumR (w : World) (p : Int) (AB : Option Addr) (cB : Nat) (bl : List S66) (g : Bool) (e : Ending) (w' : World) : Prop :=
 (g = true ∧ ∃ gv v2 v3 lb, e = .returned (.tuple #[.pointer (some ⟨gv, 0, none⟩), .bool (decide (totB p bl ≤ 80))]) ∧ Aside0 (Vw w w' gv p AB bl.length cB v2 v3 (totB p bl) (firstsB p bl) lb)) ∨
 (g = false ∧ e = .returned (.tuple #[.pointer none, .bool false]) ∧ Aside0 (Below w.heap.size w w'))
def headB (p : Int) (bl : List S66) : Bool := decide (0 ≤ p ∧ p ≤ 4) && decide (1 ≤ (bl.length : Int) ∧ (bl.length : Int) ≤ 8) && decide ((rd_T66 bl 0).f0 = 0)
set_option maxHeartbeats 4000000 in
theorem numbered_0 (AB : Option Addr) (cB : Nat) (bl : List S66) (p : Int) (w : World) (hb : Kd.C k66 w AB bl.length bl) (hc : bl.length ≤ cB) (hp : ¬ (0 ≤ p ∧ p ≤ 4)) :
  Calls Try.prog 50 #[.agg #[.int .i64 p, .slice AB bl.length cB]] w (NumR w p AB cB bl (headB p bl && bl.all stepB)) := by
 (have huf := Try.underlying33); (have hub := Try.underlying66); (have huv := Try.underlying57); (have HWP : Aside0 (∀ W, Calls Try.prog 33 #[.int .i64 p, .int .i64 0, .int .i64 4] W fun e w' => e = .returned (.bool false) ∧ Below W.heap.size W w') := ⟨fun W => by have := within_told p 0 4 W; rwa [decide_eq_false hp] at this⟩); (have hg : (headB p bl && bl.all stepB) = false := by unfold headB; rw [decide_eq_false hp]; rfl); (rw [hg]); clear hg hp hb hc
 suffices hS : Calls Try.prog 50 #[.agg #[.int .i64 p, .slice AB bl.length cB]] w (fun e w' => e = .returned (.tuple #[.pointer none, .bool false]) ∧ Aside0 (Below w.heap.size w w')) from hS.mono fun e w' h => .inr ⟨rfl, h⟩
 (generalize bl.length = n); (go_enter Try.func50, Try.ntmps50); (go_wp2_with (first | ((with_reducible refine gate_dst (N := 1) rfl ?_); refine bxQ 1 #[.int .i64 p, .slice AB n cB] 33 ?_; intro gf hgb w1 hbox hb; have B1 := Aside0.mk hb; have BF := Aside0.mk hbox; have y0 := bvQ hbox 0 (.int .i64 p); have y1 := bvQ hbox 1 (.slice AB n cB); clear hgb hbox hb) | (go_at_call 33; (with_reducible refine (HWP.out _).mono ?_); rintro e w2 ⟨rfl, Z2⟩; replace y0 := pw_cell_below Z2 y0; replace y1 := pw_cell_below Z2 y1))); (go_ret2); (exact ⟨rfl, ⟨(by (repeat (first | exact below_step B1.out Z2 | apply pw_below_drewN | apply below_drew1)))⟩⟩)
set_option maxHeartbeats 4000000 in
theorem numbered_1 (AB : Option Addr) (cB : Nat) (bl : List S66) (p : Int) (w : World) (hb : Kd.C k66 w AB bl.length bl) (hc : bl.length ≤ cB) (hp : 0 ≤ p ∧ p ≤ 4) (hn : ¬ (1 ≤ (bl.length : Int) ∧ (bl.length : Int) ≤ 8)) :
  Calls Try.prog 50 #[.agg #[.int .i64 p, .slice AB bl.length cB]] w (NumR w p AB cB bl (headB p bl && bl.all stepB)) := by
 (have huf := Try.underlying33); (have hub := Try.underlying66); (have huv := Try.underlying57); (have HWP : Aside0 (∀ W, Calls Try.prog 33 #[.int .i64 p, .int .i64 0, .int .i64 4] W fun e w' => e = .returned (.bool true) ∧ Below W.heap.size W w') := ⟨fun W => by have := within_told p 0 4 W; rwa [decide_eq_true hp] at this⟩); (have HWN : Aside0 (∀ W, Calls Try.prog 33 #[.int .i64 (bl.length : Int), .int .i64 1, .int .i64 8] W fun e w' => e = .returned (.bool false) ∧ Below W.heap.size W w') := ⟨fun W => by have := within_told (bl.length : Int) 1 8 W; rwa [decide_eq_false hn] at this⟩); (have hg : (headB p bl && bl.all stepB) = false := by unfold headB; rw [decide_eq_false hn, Bool.and_false]; rfl); (rw [hg]); clear hg hp hn hb hc
 suffices hS : Calls Try.prog 50 #[.agg #[.int .i64 p, .slice AB bl.length cB]] w (fun e w' => e = .returned (.tuple #[.pointer none, .bool false]) ∧ Aside0 (Below w.heap.size w w')) from hS.mono fun e w' h => .inr ⟨rfl, h⟩
 (generalize bl.length = n at *); (go_enter Try.func50, Try.ntmps50); (go_wp2_with (first | ((with_reducible refine gate_dst (N := 1) rfl ?_); refine bxQ 1 #[.int .i64 p, .slice AB n cB] 33 ?_; intro gf hgb w1 hbox hb; have B1 := Aside0.mk hb; have BF := Aside0.mk hbox; have y0 := bvQ hbox 0 (.int .i64 p); have y1 := bvQ hbox 1 (.slice AB n cB); clear hgb hbox hb) | (go_at_call 33; (with_reducible refine (HWP.out _).mono ?_); rintro e w2 ⟨rfl, Z2⟩; replace y0 := pw_cell_below Z2 y0; replace y1 := pw_cell_below Z2 y1) | (go_at_call 33; (with_reducible refine (HWN.out _).mono ?_); rintro e w3 ⟨rfl, Z3⟩; replace y0 := pw_cell_below Z3 y0; replace y1 := pw_cell_below Z3 y1))); (go_ret2); (exact ⟨rfl, ⟨(by (repeat (first | exact below_step (below_step B1.out Z2) Z3 | apply pw_below_drewN | apply below_drew1)))⟩⟩)
set_option maxHeartbeats 4000000 in
theorem numbered_2 (AB : Option Addr) (cB : Nat) (bl : List S66) (p : Int) (w : World) (hb : Kd.C k66 w AB bl.length bl) (hc : bl.length ≤ cB) (hp : 0 ≤ p ∧ p ≤ 4) (hn : 1 ≤ (bl.length : Int) ∧ (bl.length : Int) ≤ 8) (h0 : ¬ (rd_T66 bl 0).f0 = 0) :
  Calls Try.prog 50 #[.agg #[.int .i64 p, .slice AB bl.length cB]] w (NumR w p AB cB bl (headB p bl && bl.all stepB)) := by
 (have huf := Try.underlying33); (have hub := Try.underlying66); (have huv := Try.underlying57); (have HWP : Aside0 (∀ W, Calls Try.prog 33 #[.int .i64 p, .int .i64 0, .int .i64 4] W fun e w' => e = .returned (.bool true) ∧ Below W.heap.size W w') := ⟨fun W => by have := within_told p 0 4 W; rwa [decide_eq_true hp] at this⟩); (have HWN : Aside0 (∀ W, Calls Try.prog 33 #[.int .i64 (bl.length : Int), .int .i64 1, .int .i64 8] W fun e w' => e = .returned (.bool true) ∧ Below W.heap.size W w') := ⟨fun W => by have := within_told (bl.length : Int) 1 8 W; rwa [decide_eq_true hn] at this⟩); (obtain ⟨ad, A1, c1, A4, c4, e1, hx, -, -, -, -, -, -, -, -⟩ := at_T66 hb 0 (Int.le_refl _) (by omega)); (cases e1); (rw [show (0 : Int).toNat * 5 = 0 from rfl, show ad.add 0 = ad by unfold Addr.add; split <;> simp_all] at hx); (have hxq := hx); (rw [show ad = ad.add 0 by unfold Addr.add; split <;> simp_all] at hxq); (have hg : (headB p bl && bl.all stepB) = false := by unfold headB; rw [decide_eq_false h0, Bool.and_false]; rfl); (rw [hg])
 suffices hS : Calls Try.prog 50 #[.agg #[.int .i64 p, .slice (some ad) bl.length cB]] w (fun e w' => e = .returned (.tuple #[.pointer none, .bool false]) ∧ Aside0 (Below w.heap.size w w')) from hS.mono fun e w' h => .inr ⟨rfl, h⟩
 (have hn1 : ((0 : Int) < (bl.length : Int)) = True := eq_true (by omega)); (have hn2 : (0 < bl.length) = True := eq_true (by omega)); (have hq : ((rd_T66 bl 0).f0 == 0) = false := by rw [beq_eq_false_iff_ne]; exact h0); clear hg hp hn hb hc h0; (generalize (rd_T66 bl 0).f0 = q0 at *); (generalize bl.length = n at *); (go_enter Try.func50, Try.ntmps50); (go_wp2_with (first | ((with_reducible refine gate_dst (N := 1) rfl ?_); refine bxQ 1 #[.int .i64 p, .slice (some ad) n cB] 33 ?_; intro gf hgb w1 hbox hb; have B1 := Aside0.mk hb; have BF := Aside0.mk hbox; have y0 := bvQ hbox 0 (.int .i64 p); have y1 := bvQ hbox 1 (.slice (some ad) n cB); replace hx := pw_cell_below hb hx; replace hxq := pw_cell_below hb hxq; clear hgb hbox hb) | (go_at_call 33; (with_reducible refine (HWP.out _).mono ?_); rintro e w2 ⟨rfl, Z2⟩; replace y0 := pw_cell_below Z2 y0; replace y1 := pw_cell_below Z2 y1; replace hx := pw_cell_below Z2 hx; replace hxq := pw_cell_below Z2 hxq) | (go_at_call 33; (with_reducible refine (HWN.out _).mono ?_); rintro e w3 ⟨rfl, Z3⟩; replace y0 := pw_cell_below Z3 y0; replace y1 := pw_cell_below Z3 y1; replace hx := pw_cell_below Z3 hx; replace hxq := pw_cell_below Z3 hxq))); (go_ret2); (exact ⟨rfl, ⟨(by (repeat (first | exact below_step (below_step B1.out Z2) Z3 | apply pw_below_drewN | apply below_drew1)))⟩⟩)
theorem totB_snoc (b : S66) : ∀ (l : List S66) (p : Int), totB p (l ++ [b]) = totB p l + sizeB b
 | [], _ => rfl
 | _ :: l, _ => totB_snoc b l _
theorem firstsB_snoc (b : S66) : ∀ (l : List S66) (p : Int), firstsB p (l ++ [b]) = firstsB p l ++ [totB p l]
 | [], _ => rfl
 | _ :: l, _ => congrArg _ (firstsB_snoc b l _)
theorem firstsB_length : ∀ (l : List S66) (p : Int), (firstsB p l).length = l.length
 | [], _ => rfl
 | _ :: l, _ => congrArg (· + 1) (firstsB_length l _)
theorem totB_le : ∀ (l : List S66) (p : Int), l.all stepB = true → p ≤ totB p l ∧ totB p l ≤ p + 84 * (l.length : Int)
 | [], p, _ => ⟨Int.le_refl _, by simp [totB]⟩
 | b :: l, p, h => by
  rw [List.all_cons, Bool.and_eq_true] at h
  obtain ⟨h1, h2⟩ := totB_le l (p + sizeB b) h.2
  have hb := h.1
  unfold stepB at hb
  rw [Bool.and_eq_true, decide_eq_true_iff, decide_eq_true_iff] at hb
  have : sizeB b = b.f0 + (b.f1.length : Int) := rfl
  show p ≤ totB (p + sizeB b) l ∧ totB (p + sizeB b) l ≤ p + 84 * ((l.length + 1 : Nat) : Int)
  omega
theorem box_set5 {W : World} {g t : Nat} {a b c d e : Value} (h : W.heap[g]? = some (.cells #[a, b, c, d, e] t (0, 0))) (x y z u v : Value) : (((((W.setCell ⟨g, 0, none⟩ x).setCell ⟨g, 1, none⟩ y).setCell ⟨g, 2, none⟩ z).setCell ⟨g, 3, none⟩ u).setCell ⟨g, 4, none⟩ v).heap[g]? = some (.cells #[x, y, z, u, v] t (0, 0)) := blk_set (blk_set (blk_set (blk_set (blk_set h 0 x) 1 y) 2 z) 3 u) 4 v
theorem repeat_slice (A : Option Addr) (c : Nat) (x : Int) (n : Nat) (hn : n ≤ 1000000) (w : World) (hr : Kd.C (Kd.int .i64) w A 1 [x]) (hc : 1 ≤ c) :
  Calls Try.prog 68 #[.slice A 1 c, .int .i64 (n : Int)] w fun e w' => ∃ A6 c6 L, e = .returned (.slice A6 n c6) ∧ Aside0 (Kd.R (Kd.int .i64) 3 w' w.heap.size (fun _ => True) (.slice A6 n c6) L ∧ L.length = n ∧ Below w.heap.size w w') :=
 (repeat_told A c x n hn w hr hc).mono fun e w' ⟨v, L, he, h⟩ => by
  obtain ⟨A6, c6, rfl⟩ := Kd.R_slice h.out.1
  have hl := h.out.2.1
  have h1 := h.out.1
  rw [hl] at he h1
  exact ⟨A6, c6, L, he, ⟨h1, h.out.2⟩⟩
set_option maxHeartbeats 4000000 in
theorem numbered_3 (AB : Option Addr) (cB : Nat) (bl : List S66) (p : Int) (w : World) (hb : Kd.C k66 w AB bl.length bl) (hc : bl.length ≤ cB) (hp : 0 ≤ p ∧ p ≤ 4) (hn : 1 ≤ (bl.length : Int) ∧ (bl.length : Int) ≤ 8) (h0 : (rd_T66 bl 0).f0 = 0) :
  Calls Try.prog 50 #[.agg #[.int .i64 p, .slice AB bl.length cB]] w (NumR w p AB cB bl (headB p bl && bl.all stepB)) := by
 (have huf := Try.underlying33); (have hub := Try.underlying66); (have huv := Try.underlying57); (have HWP : Aside0 (∀ W, Calls Try.prog 33 #[.int .i64 p, .int .i64 0, .int .i64 4] W fun e w' => e = .returned (.bool true) ∧ Below W.heap.size W w') := ⟨fun W => by have := within_told p 0 4 W; rwa [decide_eq_true hp] at this⟩); (have HWN : Aside0 (∀ W, Calls Try.prog 33 #[.int .i64 (bl.length : Int), .int .i64 1, .int .i64 8] W fun e w' => e = .returned (.bool true) ∧ Below W.heap.size W w') := ⟨fun W => by have := within_told (bl.length : Int) 1 8 W; rwa [decide_eq_true hn] at this⟩); (obtain ⟨ad, A1, c1, A4, c4, e1, hx, -, -, -, -, -, -, -, -⟩ := at_T66 hb 0 (Int.le_refl _) (by omega)); (cases e1); (rw [show (0 : Int).toNat * 5 = 0 from rfl, show ad.add 0 = ad by unfold Addr.add; split <;> simp_all] at hx); (have hxq := hx); (rw [show ad = ad.add 0 by unfold Addr.add; split <;> simp_all] at hxq); (have hg : headB p bl = true := by unfold headB; rw [decide_eq_true hp, decide_eq_true hn, decide_eq_true h0]; rfl); (rw [hg, Bool.true_and]); (rw [h0] at hx hxq); (have HBL := Aside0.mk hb); (obtain ⟨pn, rfl⟩ := Int.eq_ofNat_of_zero_le hp.1); (have HPN : Aside0 (pn ≤ 1000000) := ⟨by omega⟩); (have HP4 := Aside0.mk hp); (have hn1 : ((0 : Int) < (bl.length : Int)) = True := eq_true (by omega)); (have hn2 : (0 < bl.length) = True := eq_true (by omega)); (have HN8 := Aside0.mk hn); clear hg hp hn hb hc h0; (obtain ⟨n, hN⟩ : ∃ n, n = bl.length := ⟨_, rfl⟩); (have HN := Aside0.mk hN); (rw [← hN] at HBL HN8 HWN hn1 hn2); (rw [show Value.slice (some ad) bl.length cB = Value.slice (some ad) n cB by rw [hN]]); clear hN; (go_enter Try.func50, Try.ntmps50)
 go_upto_region 3 with (first | ((with_reducible refine gate_dst (N := 1) rfl ?_); refine bxQ 1 #[.int .i64 (pn : Int), .slice (some ad) n cB] 33 ?_; intro gf hgb w1 hbox hb; have B1 := Aside0.mk hb; have BF := Aside0.mk hbox; have y0 := bvQ hbox 0 (.int .i64 (pn : Int)); have y1 := bvQ hbox 1 (.slice (some ad) n cB); replace hx := pw_cell_below hb hx; replace hxq := pw_cell_below hb hxq; clear hgb hbox hb) | (go_at_call 33; (with_reducible refine (HWP.out _).mono ?_); rintro e w2 ⟨rfl, Z2⟩; replace y0 := pw_cell_below Z2 y0; replace y1 := pw_cell_below Z2 y1; replace hx := pw_cell_below Z2 hx; replace hxq := pw_cell_below Z2 hxq) | (go_at_call 33; (with_reducible refine (HWN.out _).mono ?_); rintro e w3 ⟨rfl, Z3⟩; replace y0 := pw_cell_below Z3 y0; replace y1 := pw_cell_below Z3 y1; replace hx := pw_cell_below Z3 hx; replace hxq := pw_cell_below Z3 hxq))
 (refine wp_region_held_drew (S := (fun w' => w'.cell? ⟨gf, 0, none⟩ = some (Value.int .i64 (pn : Int)) ∧ w'.cell? ⟨gf, 1, none⟩ = some (Value.slice (some ad) n cB))) (by kernel_rfl) ⟨y0, y1⟩ (fun hHeld => ?_)); (refine tkQ 0 (some 26) ?_)
 (try simp only [actQ]); (refine tkQ 2 (some 28) ?_); (try simp only [actQ]); (refine tkQ 3 (some 29) ?_); (try simp only [actQ]); (refine tkQ 5 (some 31) ?_); (try simp only [actQ]); (refine tkQ 6 (some 32) ?_)
 (try simp only [actQ]); (refine wpAnyH_ready (rs := [1]) (by kernel_rfl) (by simp) (AllReadyH.cons (o := ⟨some 27, _, _, _, _, _⟩) rfl (fun K hK => ?_) AllReadyH.nil)); (refine Kd.R_lit_step (Kd.int .i64) _ 3 (by rfl) (N := 27) rfl (xs := ([-1] : List Int)) (inner := [.int .i64 (-1)]) (ok := fun _ => True) (okp := fun _ => True) ?hr ?hp (fun _ hk => hk) trivial (Below.refl _ _) (Nat.le_refl _) (by simp) ?_)
 case hr => first | (go_simp; done) | (go_simp; rfl)
 case hp => exact (Reps.one (show Kd.M (Kd.int .i64) _ _ _ (-1 : Int) [.int .i64 (-1)] from rfl) (Reps.none _ _))
 (intro vv w5 ho hb5 hg_ hnew_); clear hg_ hnew_; (obtain ⟨Av, cv, rfl, hcv, hCv⟩ := (show ∃ A c, vv = Value.slice A 1 c ∧ 1 ≤ c ∧ Kd.C (Kd.int .i64) w5 A 1 [-1] from by obtain ⟨A_, c_, h_⟩ := Kd.R_slice ho; subst h_; exact ⟨A_, c_, rfl, (Kd.R_reads' ho).2.1, (Kd.R_reads' ho).2.2⟩)); (have HCV := Aside0.mk (And.intro hCv hcv)); (have B5 := Aside0.mk hb5); (replace y0 := pw_cell_below hb5 y0); (replace y1 := pw_cell_below hb5 y1); clear hb5 hcv hCv ho; (refine hK.out _ _ ⟨y0, y1⟩ (fun hHeld => ?_)); clear hK K; (try simp only [actQ]); (refine wpAnyH_ready (rs := [4]) (by kernel_rfl) (by simp) (AllReadyH.cons (o := ⟨some 30, _, _, _, _, _⟩) rfl (fun K hK => ?_) AllReadyH.nil)); (go_simp); (refine (repeat_slice Av cv (-1) pn HPN.out _ HCV.out.1 HCV.out.2).mono ?_); (rintro e w6 ⟨A6, c6, L6, rfl, Z6⟩); (try dsimp only); (go_wp2_with fail); (replace y0 := pw_cell_below Z6.out.2.2 y0); (replace y1 := pw_cell_below Z6.out.2.2 y1); (refine hK.out _ _ ⟨y0, y1⟩ (fun hHeld => ?_)); clear hK K; (try simp only [actQ]); (refine tkQ 7 (some 33) ?_)
 (try simp only [actQ]); (refine wpAnyH_ready (rs := [8]) (by kernel_rfl) (by simp) (AllReadyH.cons (o := ⟨some 34, _, _, _, _, _⟩) rfl (fun K hK => ?_) AllReadyH.nil)); (go_simp)
 have VW : Aside0 (Vw w (w6.alloc (.cells #[.int .i64 (pn : Int), .slice (some ad) n cB, .slice none 0 0, .slice A6 pn c6, .int .i64 (pn : Int)] 57)) w6.heap.size (pn : Int) (some ad) n cB (.slice none 0 0) (.slice A6 pn c6) (pn : Int) [] L6 ∧ L6.length = pn) := by
  (have b56 : Below w.heap.size w w6 := below_step (below_step (by (repeat (first | exact below_step (below_step B1.out Z2) Z3 | apply pw_below_drewN | apply below_drew1))) B5.out) Z6.out.2.2); (have hr := Kd.R_lower Z6.out.1 (below_size (below_step (by (repeat (first | exact below_step (below_step B1.out Z2) Z3 | apply pw_below_drewN | apply below_drew1))) B5.out))); (exact ⟨⟨blk_new _ _, Kd.R_nil _ _ _ _ _, Kd.R_alloc (Kd.R_mono (Kd.R_bound hr) (fun k hk => by have := hk.2.2.1; show k ≠ w6.heap.size; omega)) _, fun k hk => by simp [Value.ownBlock] at hk, below_alloc b56 _, below_size b56⟩, Z6.out.2.1⟩)
 (replace y0 := pw_cell_below (below_alloc (Below.refl w6.heap.size w6) (.cells #[.int .i64 (pn : Int), .slice (some ad) n cB, .slice none 0 0, .slice A6 pn c6, .int .i64 (pn : Int)] 57)) y0); (replace y1 := pw_cell_below (below_alloc (Below.refl w6.heap.size w6) (.cells #[.int .i64 (pn : Int), .slice (some ad) n cB, .slice none 0 0, .slice A6 pn c6, .int .i64 (pn : Int)] 57)) y1); (generalize w6.alloc (.cells #[.int .i64 (pn : Int), .slice (some ad) n cB, .slice none 0 0, .slice A6 pn c6, .int .i64 (pn : Int)] 57) = w7 at *); (generalize w6.heap.size = gv at *); (refine hK.out _ _ ⟨y0, y1⟩ (fun hHeld => ?_)); clear hK K; (try simp only [actQ]); (refine tkQ 9 (some 4) ?_)
 (try simp only [actQ]); (refine wpAnyH_done (by kernel_rfl) ?_ _); (go_wp2); clear y0 y1 hx hxq HWP HWN hn1 hn2; (obtain ⟨HL0, HV0⟩ : Aside0 (L6.length = pn) ∧ Aside0 (Vw w w7 gv (pn : Int) (some ad) n cB (.slice none 0 0) (.slice A6 pn c6) (pn : Int) [] L6) := ⟨⟨VW.out.2⟩, ⟨VW.out.1⟩⟩); clear VW HCV Z6 B5 Z2 Z3 B1 BF
 go_loopg [5, 6, 38] n (fun gg v5 v6 v38 W => ∃ (i : Nat) (A2 A3 : Option Addr) (n3 c2 c3 : Nat) (lb : List Int), v38 = .int .i64 (i : Int) ∧ Aside0 (i ≤ n ∧ n - i ≤ gg) ∧ Aside0 ((bl.take i).all stepB = true) ∧ Aside0 ((lb.length : Int) = totB (pn : Int) (bl.take i) ∧ n3 = lb.length) ∧ Aside0 (Vw w W gv (pn : Int) (some ad) n cB (.slice A2 i c2) (.slice A3 n3 c3) (totB (pn : Int) (bl.take i)) (firstsB (pn : Int) (bl.take i)) lb))
 case atStart => exact ⟨0, none, A6, pn, 0, c6, L6, rfl, ⟨Nat.zero_le _, Nat.le_refl _⟩, ⟨rfl⟩, ⟨by rw [HL0.out]; rfl, HL0.out.symm⟩, HV0⟩
 case round =>
  clear HL0 HV0; (obtain ⟨i, A2, A3, n3, c2, c3, lb, rfl, M1, HALL, HLB, VW⟩ := hrel); (by_cases cx : i < n)
  ·have cxt : ((i : Int) < (n : Int)) = True := eq_true (by omega)
   (have cxn : (i < n) = True := eq_true cx); (have cx0 : ((0 : Int) ≤ (i : Int)) = True := eq_true (by omega)); (have HVB := Aside0.mk VW.out.hb); (obtain ⟨ade, A1, c1, A4, c4, e1, hx0, hx1, hx2, hx3, hx4, l1, g1, l4, g4⟩ := at_T66 (Kd.C_below HBL.out HVB.out) (i : Int) (by omega) (by omega)); (cases e1); (rw [Int.toNat_natCast] at hx0 hx1 hx2 hx3 hx4); (have hcx : i < bl.length := by rw [← HN.out]; exact cx)
   have htk : bl.take (i + 1) = bl.take i ++ [rd_T66 bl (i : Int)] := by
    (rw [List.take_succ_eq_append_getElem hcx]); (congr 2); (unfold rd_T66); (rw [Int.toNat_natCast, List.getD_eq_getElem?_getD, List.getElem?_eq_getElem hcx]); (rfl)
   have hmem : rd_T66 bl (i : Int) ∈ bl := by
    (unfold rd_T66); (rw [Int.toNat_natCast, List.getD_eq_getElem?_getD, List.getElem?_eq_getElem hcx]); (exact List.getElem_mem hcx)
   (have CX := Aside0.mk cx); (obtain ⟨x, hxx⟩ : ∃ x, x = rd_T66 bl (i : Int) := ⟨_, rfl⟩); (rw [← hxx] at hx0 hx1 hx2 hx3 hx4 l1 g1 l4 g4 htk hmem); (have HTK := Aside0.mk htk); (have HMEM := Aside0.mk hmem); clear hxx cx hcx htk hmem l4 g4; (have hszx : sizeB x = x.f0 + (x.f1.length : Int) := rfl); (have hstx : stepB x = (decide (0 ≤ x.f0 ∧ x.f0 ≤ 4) && decide (x.f1.length ≤ 80)) := rfl); (have HSZ := Aside0.mk hszx); (have HST := Aside0.mk hstx); (have HG1 := Aside0.mk g1); clear hszx hstx g1 l1; (generalize hf0 : x.f0 = x0 at *); (generalize hf1 : x.f1 = xl at *); (generalize hf2 : x.f2 = x2 at *); (generalize hf3 : x.f3 = x3 at *); (generalize hf4 : x.f4 = x4 at *); clear hf0 hf1 hf2 hf3 hf4; (generalize hnl : xl.length = n1 at *); (generalize hnl4 : x4.length = n4 at *); clear hnl4 hnl
   go_upto_region 7 with (first | ((with_reducible refine gate_dst (N := 6) rfl ?_); refine bxQ 6 #[.int .i64 0, .slice none 0 0, .int .i64 0, .int .i64 0, .slice none 0 0] 66 ?_; intro gk hgk w1 hbox hb; have BW := Aside0.mk hb; have GK := Aside0.mk hgk; have HBX := Aside0.mk hbox; have b0 : w1.cell? ⟨gk, 0, none⟩ = some (.int .i64 0) := (blk_cell hbox 0).trans rfl; have b1 : w1.cell? ⟨gk, 1, none⟩ = some (.slice none 0 0) := (blk_cell hbox 1).trans rfl; have b2 : w1.cell? ⟨gk, 2, none⟩ = some (.int .i64 0) := (blk_cell hbox 2).trans rfl; have b3 : w1.cell? ⟨gk, 3, none⟩ = some (.int .i64 0) := (blk_cell hbox 3).trans rfl; have b4 : w1.cell? ⟨gk, 4, none⟩ = some (.slice none 0 0) := (blk_cell hbox 4).trans rfl; have f0 := blk_frozen hbox 0; have f1 := blk_frozen hbox 1; have f2 := blk_frozen hbox 2; have f3 := blk_frozen hbox 3; have f4 := blk_frozen hbox 4; clear hgk hbox hb))
   (have HBK : Aside0 ((((((w1.setCell ⟨gk, 0, none⟩ (.int .i64 x0)).setCell ⟨gk, 1, none⟩ (.slice A1 n1 c1)).setCell ⟨gk, 2, none⟩ (.int .i64 x2)).setCell ⟨gk, 3, none⟩ (.int .i64 x3)).setCell ⟨gk, 4, none⟩ (.slice A4 n4 c4)).heap[gk]? = some (.cells #[.int .i64 x0, .slice A1 n1 c1, .int .i64 x2, .int .i64 x3, .slice A4 n4 c4] 66 (0, 0))) := ⟨box_set5 HBX.out _ _ _ _ _⟩); (have hge : wr.heap.size ≤ gk := Nat.le_of_eq GK.out.symm); (have BWK : Aside0 (Below wr.heap.size wr (((((w1.setCell ⟨gk, 0, none⟩ (.int .i64 x0)).setCell ⟨gk, 1, none⟩ (.slice A1 n1 c1)).setCell ⟨gk, 2, none⟩ (.int .i64 x2)).setCell ⟨gk, 3, none⟩ (.int .i64 x3)).setCell ⟨gk, 4, none⟩ (.slice A4 n4 c4))) := ⟨below_set (below_set (below_set (below_set (below_set BW.out hge) hge) hge) hge) hge⟩); (have VK := Aside0.mk (VW.out.below BWK.out)); (have NK2 : Aside0 (some gk ≠ (Value.slice A2 i c2).ownBlock) := ⟨fun e => by have := Kd.R_lt VW.out.r2 gk e.symm; omega⟩); (have NK3 : Aside0 (some gk ≠ (Value.slice A3 n3 c3).ownBlock) := ⟨fun e => by have := Kd.R_lt VW.out.r3 gk e.symm; omega⟩); (generalize (((((w1.setCell ⟨gk, 0, none⟩ (.int .i64 x0)).setCell ⟨gk, 1, none⟩ (.slice A1 n1 c1)).setCell ⟨gk, 2, none⟩ (.int .i64 x2)).setCell ⟨gk, 3, none⟩ (.int .i64 x3)).setCell ⟨gk, 4, none⟩ (.slice A4 n4 c4)) = w2 at HBK BWK VK ⊢); clear BW GK HBX b0 b1 b2 b3 b4 f0 f1 f2 f3 f4 hx0 hx1 hx2 hx3 hx4 hge VW HVB BWK; (have z0 := bcQ HBK 0 (.int .i64 x0)); (have z1 := bcQ HBK 1 (.slice A1 n1 c1)); (by_cases cp : 0 ≤ x0 ∧ x0 ≤ 4)
   ·have HWX : Aside0 (∀ W, Calls Try.prog 33 #[.int .i64 x0, .int .i64 0, .int .i64 4] W fun e w' => e = .returned (.bool true) ∧ Below W.heap.size W w') := ⟨fun W => by have := within_told x0 0 4 W; rwa [decide_eq_true cp] at this⟩
    (have CP := Aside0.mk cp); (by_cases cl : n1 ≤ 80)
    ·have clt : ((80 : Int) < (n1 : Int)) = False := eq_false (by omega)
     (have cld : decide ((80 : Int) < (n1 : Int)) = false := decide_eq_false (by omega)); (have CL := Aside0.mk cl); clear cl cp
     go_upto_region 9 with (first | (go_at_call 33; (with_reducible refine (HWX.out _).mono ?_); rintro e w3 ⟨rfl, zx⟩; have ZX := Aside0.mk zx; replace z0 := pw_cell_below zx z0; replace z1 := pw_cell_below zx z1; clear zx))
     clear HWX cld clt; (obtain ⟨t, ht⟩ : ∃ t, t = totB (pn : Int) (bl.take i) := ⟨_, rfl⟩); (obtain ⟨fs, hfs⟩ : ∃ fs, fs = firstsB (pn : Int) (bl.take i) := ⟨_, rfl⟩); (obtain ⟨m, hm⟩ : ∃ m : Nat, (m : Int) = x0 + (n1 : Int) := ⟨x0.toNat + n1, by have := CP.out; omega⟩); (have HFL : Aside0 (fs.length = i) := ⟨by rw [hfs, firstsB_length, List.length_take, ← HN.out]; have := CX.out; omega⟩)
     have HTB : Aside0 (0 ≤ t ∧ t ≤ 1000) := ⟨by
      (have h1 := totB_le (bl.take i) (pn : Int) HALL.out); (rw [← ht, List.length_take] at h1); (have := HP4.out); (have := HN8.out); (have := CX.out)
      omega⟩
     (obtain ⟨t', ht'⟩ : ∃ t', t' = t + (m : Int) := ⟨_, rfl⟩); (have HM : Aside0 (m ≤ 1000000) := ⟨by have := CP.out; have := CL.out; omega⟩); (have hs1 : IntKind.i64.wrap (x0 + (n1 : Int)) = (m : Int) := by have := CP.out; have := CL.out; rw [i64_w]; unfold wrap64; omega); (have hs2 : IntKind.i64.wrap (t + (m : Int)) = t' := by have := HTB.out; have := HM.out; rw [i64_w, ht']; unfold wrap64; omega); (have V3 : Aside0 (Vw w w3.drew gv (pn : Int) (some ad) n cB (.slice A2 i c2) (.slice A3 n3 c3) t fs lb) := ⟨by rw [ht, hfs]; exact (VK.out.below ZX.out).below (Below.drew (Below.refl _ _))⟩); (have HT := Aside0.mk ht); (have HT' := Aside0.mk ht'); (have HFS := Aside0.mk hfs); (have HMX := Aside0.mk hm); clear ht hfs hm ht'; (have NGV : Aside0 (gk ≠ gv) := ⟨blk_ne HBK.out VK.out.bk (by decide)⟩); (have BK3 : Aside0 (w3.drew.heap[gk]? = some (.cells #[.int .i64 x0, .slice A1 n1 c1, .int .i64 x2, .int .i64 x3, .slice A4 n4 c4] 66 (0, 0))) := ⟨blk_drew (blk_below HBK.out ZX.out)⟩); (have q2 := (blk_cell V3.out.bk 2).trans (show _ = some (Value.slice A2 i c2) from rfl)); (have q4 := (blk_cell V3.out.bk 4).trans (show _ = some (Value.int .i64 t) from rfl)); clear VK ZX HBK z0 z1; (refine region_held_till (S := (fun w' => w'.cell? ⟨gv, 2, none⟩ = some (Value.slice A2 i c2) ∧ w'.cell? ⟨gv, 4, none⟩ = some (Value.int .i64 t))) 13 (by kernel_rfl) ⟨q2, q4⟩ (fun hHeld => ?_)); (refine HeldTill.take (i := 0) (oi := ⟨some 53, _, _, _, _, _⟩) (v := ?_) rfl (by kernel_rfl) (by kernel_rfl) (by kernel_rfl) (by kernel_rfl) (fun _ _ _ h => h) (Or.inl ⟨by rfl, ?_⟩) (by assumption) ?_)
     case refine_2 => (intro w hSw; (try dsimp only at hSw); first | (go_simp; done) | (go_simp; with_reducible rfl))
     (try simp only [actQ]); (refine HeldTill.take (i := 1) (oi := ⟨some 54, _, _, _, _, _⟩) (v := ?_) rfl (by kernel_rfl) (by kernel_rfl) (by kernel_rfl) (by kernel_rfl) (fun _ _ _ h => h) (Or.inl ⟨by rfl, ?_⟩) (by assumption) ?_)
     case refine_2 => (intro w hSw; (try dsimp only at hSw); first | (go_simp; done) | (go_simp; with_reducible rfl))
     (try simp only [actQ]); (refine HeldTill.take (i := 2) (oi := ⟨some 55, _, _, _, _, _⟩) (v := ?_) rfl (by kernel_rfl) (by kernel_rfl) (by kernel_rfl) (by kernel_rfl) (fun _ _ _ h => h) (Or.inl ⟨by rfl, ?_⟩) (by assumption) ?_)
     case refine_2 => (intro w hSw; (try dsimp only at hSw); first | (go_simp; done) | (go_simp; with_reducible rfl))
     (try simp only [actQ]); (refine HeldTill.take (i := 3) (oi := ⟨some 56, _, _, _, _, _⟩) (v := ?_) rfl (by kernel_rfl) (by kernel_rfl) (by kernel_rfl) (by kernel_rfl) (fun _ _ _ h => h) (Or.inl ⟨by rfl, ?_⟩) (by assumption) ?_)
     case refine_2 => (intro w hSw; (try dsimp only at hSw); first | (go_simp; done) | (go_simp; with_reducible rfl))
     (try simp only [actQ]); (refine HeldTill.take (i := 4) (oi := ⟨some 57, _, _, _, _, _⟩) (v := ?_) rfl (by kernel_rfl) (by kernel_rfl) (by kernel_rfl) (by kernel_rfl) (fun _ _ _ h => h) (Or.inl ⟨by rfl, ?_⟩) (by assumption) ?_)
     case refine_2 => (intro w hSw; (try dsimp only at hSw); first | (go_simp; done) | (go_simp; with_reducible rfl))
     (try simp only [actQ]); (refine HeldTill.take (i := 5) (oi := ⟨some 58, _, _, _, _, _⟩) (v := ?_) rfl (by kernel_rfl) (by kernel_rfl) (by kernel_rfl) (by kernel_rfl) (fun _ _ _ h => h) (Or.inl ⟨by rfl, ?_⟩) (by assumption) ?_)
     case refine_2 => (intro w hSw; (try dsimp only at hSw); first | (go_simp; done) | (go_simp; with_reducible rfl))
     (try simp only [actQ]); (refine HeldTill.take (i := 6) (oi := ⟨some 59, _, _, _, _, _⟩) (v := ?_) rfl (by kernel_rfl) (by kernel_rfl) (by kernel_rfl) (by kernel_rfl) (fun _ _ _ h => h) (Or.inl ⟨by rfl, ?_⟩) (by assumption) ?_)
     case refine_2 => (intro w hSw; (try dsimp only at hSw); first | (go_simp; done) | (go_simp; with_reducible rfl))
     (try simp only [actQ]); (refine HeldTill.take (i := 7) (oi := ⟨some 60, _, _, _, _, _⟩) (v := ?_) rfl (by kernel_rfl) (by kernel_rfl) (by kernel_rfl) (by kernel_rfl) (fun _ _ _ h => h) (Or.inl ⟨by rfl, ?_⟩) (by assumption) ?_)
     case refine_2 => (intro w hSw; (try dsimp only at hSw); first | (go_simp; done) | (go_simp; with_reducible rfl))
     (try simp only [actQ]); (refine HeldTill.take (i := 8) (oi := ⟨some 61, _, _, _, _, _⟩) (v := ?_) rfl (by kernel_rfl) (by kernel_rfl) (by kernel_rfl) (by kernel_rfl) (fun _ _ _ h => h) (Or.inl ⟨by rfl, ?_⟩) (by assumption) ?_)
     case refine_2 => (intro w hSw; (try dsimp only at hSw); first | (go_simp; done) | (go_simp; with_reducible rfl))
     (try simp only [actQ]); (refine HeldTill.step (i := 9) (o := ⟨some 62, _, _, _, _, _⟩) (by kernel_rfl) rfl (fun K hK => ?_)); (go_simp); (refine hK.out _ _ ⟨pw_cell_below (below_alloc (Below.refl _ _) _) q2, pw_cell_below (below_alloc (Below.refl _ _) _) q4⟩ (fun hHeld => ?_)); clear hK K; (try simp only [actQ]); (refine HeldTill.step (i := 10) (o := ⟨some 63, _, _, _, _, _⟩) (by kernel_rfl) rfl (fun K hK => ?_)); (refine Kd.R_append_step (Kd.int .i64) (w0 := w) (W := w3.drew) w.heap.size (by rfl) (.tmp 57) (.tmp 62) 55 3 (.int .i64 0) 8 rfl Try.underlying55 info3 rfl (by decide) (by omega) (.slice A2 i c2) fs t [.int .i64 t] (fun k => k ≠ gv) (fun _ => False) rfl rfl ?aP (fun _ hk => hk.elim) ?aF V3.out.r2 V3.out.hb V3.out.hb.size ?aL ?_)
     case aP => exact rfl
     case aF => exact fun k hk => by have := blk_lt V3.out.bk; omega
     case aL => rw [HFL.out]; have := HN8.out; have := CX.out; omega
     (intro v10 w10 ho hb10 hg10 hat10); (obtain ⟨A10, c10, e10⟩ := Kd.R_slice ho); (rw [List.length_append, HFL.out, List.length_singleton] at e10); (subst e10); (have AP := V3.out.app2 ho hb10 hg10 hat10); (have BK10 : Aside0 ((w10.setCell ⟨gv, 2, none⟩ (.slice A10 (i + 1) c10)).heap[gk]? = some (.cells #[.int .i64 x0, .slice A1 n1 c1, .int .i64 x2, .int .i64 x3, .slice A4 n4 c4] 66 (0, 0))) := ⟨blk_far (blk_grown BK3.out hg10 NK2.out) NGV.out _⟩); (replace q2 := (blk_cell AP.1 2).trans (show _ = some (Value.slice A2 i c2) from rfl)); (replace q4 := (blk_cell AP.1 4).trans (show _ = some (Value.int .i64 t) from rfl)); (have fz := blk_frozen AP.1 2); (have V10 := Aside0.mk AP.2); clear ho hb10 hg10 hat10 AP; (refine hK.out _ _ ⟨q2, q4⟩ (fun hHeld => ?_)); clear hK K; (try simp only [actQ]); (refine HeldTill.only (i := 11) (oi := ⟨some 64, _, _, _, _, _⟩) (v := ?_) rfl (by kernel_rfl) (Or.inl ⟨by rfl, ?_⟩) (by assumption) ?_)
     case refine_2 => (intro w hSw; (try dsimp only at hSw); first | (go_simp; done) | (go_simp; with_reducible rfl))
     (try simp only [actQ]); (refine HeldTill.take (i := 12) (oi := ⟨some 65, _, _, _, _, _⟩) (v := ?_) rfl (by kernel_rfl) (by kernel_rfl) (by kernel_rfl) (by kernel_rfl) (fun _ _ _ h => h) (Or.inl ⟨by rfl, ?_⟩) (by assumption) ?_)
     case refine_2 => (intro w hSw; (try dsimp only at hSw); first | (go_simp; done) | (go_simp; with_reducible rfl))
     (try simp only [actQ]); (refine HeldTill.last (o := ⟨none, _, _, _, _, _⟩) (by kernel_rfl) rfl (by kernel_rfl) (fun K hK => ?_)); (go_simp); (generalize w10.setCell ⟨gv, 2, none⟩ (.slice A10 (i + 1) c10) = w11 at V10 BK10 ⊢); (refine hK.out _ _ ?_); clear hK K; (try simp only [actQ]); clear q2 q4 fz V3 BK3
     go_upto_region 10 with (fail)
     (have V12 := Aside0.mk (V10.out.below (Below.drew (Below.refl w11.heap.size w11)))); (have BK12 := Aside0.mk (blk_drew BK10.out)); (have q4 := (blk_cell V12.out.bk 4).trans (show _ = some (Value.int .i64 t) from rfl)); (have z0 := bcQ BK12 0 (.int .i64 x0)); (have z1 := bcQ BK12 1 (.slice A1 n1 c1)); (have fz := blk_frozen V12.out.bk 4); (have V13 := Aside0.mk ((V10.out.put t').below (Below.drew (Below.refl (w11.setCell ⟨gv, 4, none⟩ (.int .i64 t')).heap.size _)))); (have BK13 : Aside0 ((w11.setCell ⟨gv, 4, none⟩ (.int .i64 t')).drew.heap[gk]? = some (.cells #[.int .i64 x0, .slice A1 n1 c1, .int .i64 x2, .int .i64 x3, .slice A4 n4 c4] 66 (0, 0))) := ⟨blk_drew (blk_far BK10.out NGV.out _)⟩); (refine region_held_till (S := (fun w' => w'.cell? ⟨gv, 4, none⟩ = some (Value.int .i64 t) ∧ w'.cell? ⟨gk, 0, none⟩ = some (Value.int .i64 x0) ∧ w'.cell? ⟨gk, 1, none⟩ = some (Value.slice A1 n1 c1))) 13 (by kernel_rfl) ⟨q4, z0, z1⟩ (fun hHeld => ?_)); (refine HeldTill.take (i := 0) (oi := ⟨some 66, _, _, _, _, _⟩) (v := ?_) rfl (by kernel_rfl) (by kernel_rfl) (by kernel_rfl) (by kernel_rfl) (fun _ _ _ h => h) (Or.inl ⟨by rfl, ?_⟩) (by assumption) ?_)
     case refine_2 => (intro w hSw; (try dsimp only at hSw); first | (go_simp; done) | (go_simp; with_reducible rfl))
     (try simp only [actQ]); (refine HeldTill.take (i := 1) (oi := ⟨some 67, _, _, _, _, _⟩) (v := ?_) rfl (by kernel_rfl) (by kernel_rfl) (by kernel_rfl) (by kernel_rfl) (fun _ _ _ h => h) (Or.inl ⟨by rfl, ?_⟩) (by assumption) ?_)
     case refine_2 => (intro w hSw; (try dsimp only at hSw); first | (go_simp; done) | (go_simp; with_reducible rfl))
     (try simp only [actQ]); (refine HeldTill.take (i := 2) (oi := ⟨some 68, _, _, _, _, _⟩) (v := ?_) rfl (by kernel_rfl) (by kernel_rfl) (by kernel_rfl) (by kernel_rfl) (fun _ _ _ h => h) (Or.inl ⟨by rfl, ?_⟩) (by assumption) ?_)
     case refine_2 => (intro w hSw; (try dsimp only at hSw); first | (go_simp; done) | (go_simp; with_reducible rfl))
     (try simp only [actQ]); (refine HeldTill.take (i := 3) (oi := ⟨some 69, _, _, _, _, _⟩) (v := ?_) rfl (by kernel_rfl) (by kernel_rfl) (by kernel_rfl) (by kernel_rfl) (fun _ _ _ h => h) (Or.inl ⟨by rfl, ?_⟩) (by assumption) ?_)
     case refine_2 => (intro w hSw; (try dsimp only at hSw); first | (go_simp; done) | (go_simp; with_reducible rfl))
     (try simp only [actQ]); (refine HeldTill.take (i := 4) (oi := ⟨some 70, _, _, _, _, _⟩) (v := ?_) rfl (by kernel_rfl) (by kernel_rfl) (by kernel_rfl) (by kernel_rfl) (fun _ _ _ h => h) (Or.inl ⟨by rfl, ?_⟩) (by assumption) ?_)
     case refine_2 => (intro w hSw; (try dsimp only at hSw); first | (go_simp; done) | (go_simp; with_reducible rfl))
     (try simp only [actQ]); (refine HeldTill.take (i := 5) (oi := ⟨some 71, _, _, _, _, _⟩) (v := ?_) rfl (by kernel_rfl) (by kernel_rfl) (by kernel_rfl) (by kernel_rfl) (fun _ _ _ h => h) (Or.inl ⟨by rfl, ?_⟩) (by assumption) ?_)
     case refine_2 => (intro w hSw; (try dsimp only at hSw); first | (go_simp; done) | (go_simp; with_reducible rfl))
     (try simp only [actQ]); (refine HeldTill.take (i := 6) (oi := ⟨some 72, _, _, _, _, _⟩) (v := ?_) rfl (by kernel_rfl) (by kernel_rfl) (by kernel_rfl) (by kernel_rfl) (fun _ _ _ h => h) (Or.inl ⟨by rfl, ?_⟩) (by assumption) ?_)
     case refine_2 => (intro w hSw; (try dsimp only at hSw); first | (go_simp; done) | (go_simp; with_reducible rfl))
     (try simp only [actQ]); (refine HeldTill.take (i := 7) (oi := ⟨some 73, _, _, _, _, _⟩) (v := ?_) rfl (by kernel_rfl) (by kernel_rfl) (by kernel_rfl) (by kernel_rfl) (fun _ _ _ h => h) (Or.inl ⟨by rfl, ?_⟩) (by assumption) ?_)
     case refine_2 => (intro w hSw; (try dsimp only at hSw); first | (go_simp; done) | (go_simp; with_reducible rfl))
     (try simp only [actQ]); (refine HeldTill.take (i := 8) (oi := ⟨some 74, _, _, _, _, _⟩) (v := ?_) rfl (by kernel_rfl) (by kernel_rfl) (by kernel_rfl) (by kernel_rfl) (fun _ _ _ h => h) (Or.inl ⟨by rfl, ?_⟩) (by assumption) ?_)
     case refine_2 => (intro w hSw; (try dsimp only at hSw); first | (go_simp; done) | (go_simp; with_reducible rfl))
     (try simp only [actQ]); (refine HeldTill.take (i := 9) (oi := ⟨some 75, _, _, _, _, _⟩) (v := ?_) rfl (by kernel_rfl) (by kernel_rfl) (by kernel_rfl) (by kernel_rfl) (fun _ _ _ h => h) (Or.inl ⟨by rfl, ?_⟩) (by assumption) ?_)
     case refine_2 => (intro w hSw; (try dsimp only at hSw); first | (go_simp; done) | (go_simp; with_reducible rfl))
     (try simp only [actQ]); (refine HeldTill.take (i := 10) (oi := ⟨some 76, _, _, _, _, _⟩) (v := ?_) rfl (by kernel_rfl) (by kernel_rfl) (by kernel_rfl) (by kernel_rfl) (fun _ _ _ h => h) (Or.inl ⟨by rfl, ?_⟩) (by assumption) ?_)
     case refine_2 => (intro w hSw; (try dsimp only at hSw); first | (go_simp; done) | (go_simp; with_reducible rfl))
     (try simp only [actQ]); (refine HeldTill.only (i := 11) (oi := ⟨some 77, _, _, _, _, _⟩) (v := ?_) rfl (by kernel_rfl) (Or.inl ⟨by rfl, ?_⟩) (by assumption) ?_)
     case refine_2 => (intro w hSw; (try dsimp only at hSw); first | (go_simp; done) | (go_simp; with_reducible rfl))
     (try simp only [actQ]); (refine HeldTill.take (i := 12) (oi := ⟨some 78, _, _, _, _, _⟩) (v := ?_) rfl (by kernel_rfl) (by kernel_rfl) (by kernel_rfl) (by kernel_rfl) (fun _ _ _ h => h) (Or.inl ⟨by rfl, ?_⟩) (by assumption) ?_)
     case refine_2 => (intro w hSw; (try dsimp only at hSw); first | (go_simp; done) | (go_simp; with_reducible rfl))
     (try simp only [actQ]); (refine HeldTill.last (o := ⟨none, _, _, _, _, _⟩) (by kernel_rfl) rfl (by kernel_rfl) (fun K hK => ?_)); (go_simp); (generalize (w11.setCell ⟨gv, 4, none⟩ (.int .i64 t')).drew = w13 at V13 BK13 ⊢); (refine hK.out _ _ ?_); clear hK K; (try simp only [actQ]); clear q4 z0 z1 fz V12 BK12 V10 BK10
     go_upto_region 11 with (fail)
     (have V14 := Aside0.mk (V13.out.below (Below.drew (Below.refl w13.heap.size w13)))); (have BK14 := Aside0.mk (blk_drew BK13.out)); (have q3 := (blk_cell V14.out.bk 3).trans (show _ = some (Value.slice A3 n3 c3) from rfl)); (have z0 := bcQ BK14 0 (.int .i64 x0)); (have z1 := bcQ BK14 1 (.slice A1 n1 c1)); (refine region_held_till (S := (fun w' => w'.cell? ⟨gv, 3, none⟩ = some (Value.slice A3 n3 c3) ∧ w'.cell? ⟨gk, 0, none⟩ = some (Value.int .i64 x0) ∧ w'.cell? ⟨gk, 1, none⟩ = some (Value.slice A1 n1 c1))) 17 (by kernel_rfl) ⟨q3, z0, z1⟩ (fun hHeld => ?_)); (refine HeldTill.take (i := 0) (oi := ⟨some 79, _, _, _, _, _⟩) (v := ?_) rfl (by kernel_rfl) (by kernel_rfl) (by kernel_rfl) (by kernel_rfl) (fun _ _ _ h => h) (Or.inl ⟨by rfl, ?_⟩) (by assumption) ?_)
     case refine_2 => (intro w hSw; (try dsimp only at hSw); first | (go_simp; done) | (go_simp; with_reducible rfl))
     (try simp only [actQ]); (refine HeldTill.take (i := 1) (oi := ⟨some 80, _, _, _, _, _⟩) (v := ?_) rfl (by kernel_rfl) (by kernel_rfl) (by kernel_rfl) (by kernel_rfl) (fun _ _ _ h => h) (Or.inl ⟨by rfl, ?_⟩) (by assumption) ?_)
     case refine_2 => (intro w hSw; (try dsimp only at hSw); first | (go_simp; done) | (go_simp; with_reducible rfl))
     (try simp only [actQ]); (refine HeldTill.take (i := 2) (oi := ⟨some 81, _, _, _, _, _⟩) (v := ?_) rfl (by kernel_rfl) (by kernel_rfl) (by kernel_rfl) (by kernel_rfl) (fun _ _ _ h => h) (Or.inl ⟨by rfl, ?_⟩) (by assumption) ?_)
     case refine_2 => (intro w hSw; (try dsimp only at hSw); first | (go_simp; done) | (go_simp; with_reducible rfl))
     (try simp only [actQ]); (refine HeldTill.take (i := 3) (oi := ⟨some 82, _, _, _, _, _⟩) (v := ?_) rfl (by kernel_rfl) (by kernel_rfl) (by kernel_rfl) (by kernel_rfl) (fun _ _ _ h => h) (Or.inl ⟨by rfl, ?_⟩) (by assumption) ?_)
     case refine_2 => (intro w hSw; (try dsimp only at hSw); first | (go_simp; done) | (go_simp; with_reducible rfl))
     (try simp only [actQ]); (refine HeldTill.take (i := 4) (oi := ⟨some 83, _, _, _, _, _⟩) (v := ?_) rfl (by kernel_rfl) (by kernel_rfl) (by kernel_rfl) (by kernel_rfl) (fun _ _ _ h => h) (Or.inl ⟨by rfl, ?_⟩) (by assumption) ?_)
     case refine_2 => (intro w hSw; (try dsimp only at hSw); first | (go_simp; done) | (go_simp; with_reducible rfl))
     (try simp only [actQ]); (refine HeldTill.take (i := 5) (oi := ⟨some 84, _, _, _, _, _⟩) (v := ?_) rfl (by kernel_rfl) (by kernel_rfl) (by kernel_rfl) (by kernel_rfl) (fun _ _ _ h => h) (Or.inl ⟨by rfl, ?_⟩) (by assumption) ?_)
     case refine_2 => (intro w hSw; (try dsimp only at hSw); first | (go_simp; done) | (go_simp; with_reducible rfl))
     (try simp only [actQ]); (refine HeldTill.take (i := 7) (oi := ⟨some 86, _, _, _, _, _⟩) (v := ?_) rfl (by kernel_rfl) (by kernel_rfl) (by kernel_rfl) (by kernel_rfl) (fun _ _ _ h => h) (Or.inl ⟨by rfl, ?_⟩) (by assumption) ?_)
     case refine_2 => (intro w hSw; (try dsimp only at hSw); first | (go_simp; done) | (go_simp; with_reducible rfl))
     (try simp only [actQ]); (refine HeldTill.take (i := 8) (oi := ⟨some 87, _, _, _, _, _⟩) (v := ?_) rfl (by kernel_rfl) (by kernel_rfl) (by kernel_rfl) (by kernel_rfl) (fun _ _ _ h => h) (Or.inl ⟨by rfl, ?_⟩) (by assumption) ?_)
     case refine_2 => (intro w hSw; (try dsimp only at hSw); first | (go_simp; done) | (go_simp; with_reducible rfl))
     (try simp only [actQ]); (refine HeldTill.take (i := 9) (oi := ⟨some 88, _, _, _, _, _⟩) (v := ?_) rfl (by kernel_rfl) (by kernel_rfl) (by kernel_rfl) (by kernel_rfl) (fun _ _ _ h => h) (Or.inl ⟨by rfl, ?_⟩) (by assumption) ?_)
     case refine_2 => (intro w hSw; (try dsimp only at hSw); first | (go_simp; done) | (go_simp; with_reducible rfl))
     (try simp only [actQ]); (refine HeldTill.take (i := 10) (oi := ⟨some 89, _, _, _, _, _⟩) (v := ?_) rfl (by kernel_rfl) (by kernel_rfl) (by kernel_rfl) (by kernel_rfl) (fun _ _ _ h => h) (Or.inl ⟨by rfl, ?_⟩) (by assumption) ?_)
     case refine_2 => (intro w hSw; (try dsimp only at hSw); first | (go_simp; done) | (go_simp; with_reducible rfl))
     (try simp only [actQ]); (refine HeldTill.take (i := 11) (oi := ⟨some 90, _, _, _, _, _⟩) (v := ?_) rfl (by kernel_rfl) (by kernel_rfl) (by kernel_rfl) (by kernel_rfl) (fun _ _ _ h => h) (Or.inl ⟨by rfl, ?_⟩) (by assumption) ?_)
     case refine_2 => (intro w hSw; (try dsimp only at hSw); first | (go_simp; done) | (go_simp; with_reducible rfl))
     (try simp only [actQ]); (refine HeldTill.take (i := 12) (oi := ⟨some 91, _, _, _, _, _⟩) (v := ?_) rfl (by kernel_rfl) (by kernel_rfl) (by kernel_rfl) (by kernel_rfl) (fun _ _ _ h => h) (Or.inl ⟨by rfl, ?_⟩) (by assumption) ?_)
     case refine_2 => (intro w hSw; (try dsimp only at hSw); first | (go_simp; done) | (go_simp; with_reducible rfl))
     (try simp only [actQ]); (refine HeldTill.step (i := 6) (o := ⟨some 85, _, _, _, _, _⟩) (by kernel_rfl) rfl (fun K hK => ?_)); (refine Kd.R_lit_step (Kd.int .i64) _ 3 (by rfl) (N := 85) rfl (xs := ([(i : Int)] : List Int)) (inner := [.int .i64 ((i : Int))]) (ok := fun _ => True) (okp := fun _ => True) ?hr ?hp (fun _ hk => hk) trivial (Below.refl _ _) (Nat.le_refl _) (by simp) ?_)
     case hr => first | (go_simp; done) | (go_simp; rfl)
     case hp => exact (Reps.one (show Kd.M (Kd.int .i64) _ _ _ ((i : Int) : Int) [.int .i64 ((i : Int))] from rfl) (Reps.none _ _))
     (intro vv w14 ho hb5 hg_ hnew_); clear hg_ hnew_; (obtain ⟨Aw, cw, rfl, hcv, hCv⟩ := (show ∃ A c, vv = Value.slice A 1 c ∧ 1 ≤ c ∧ Kd.C (Kd.int .i64) w14 A 1 [(i : Int)] from by obtain ⟨A_, c_, h_⟩ := Kd.R_slice ho; subst h_; exact ⟨A_, c_, rfl, (Kd.R_reads' ho).2.1, (Kd.R_reads' ho).2.2⟩)); (have HCW := Aside0.mk (And.intro hCv hcv)); (have B14 := Aside0.mk hb5); (replace q3 := pw_cell_below hb5 q3); (replace z0 := pw_cell_below hb5 z0); (replace z1 := pw_cell_below hb5 z1); clear hb5 hcv hCv ho; (refine hK.out _ _ ⟨q3, z0, z1⟩ (fun hHeld => ?_)); clear hK K; (try simp only [actQ]); (refine HeldTill.step (i := 13) (o := ⟨some 92, _, _, _, _, _⟩) (by kernel_rfl) rfl (fun K hK => ?_)); (go_simp); (refine (repeat_slice Aw cw (i : Int) m HM.out _ HCW.out.1 HCW.out.2).mono ?_); (rintro e w15 ⟨A15, c15, L15, rfl, Z15⟩); (try dsimp only); (go_wp2_with fail); (replace q3 := pw_cell_below Z15.out.2.2 q3); (replace z0 := pw_cell_below Z15.out.2.2 z0); (replace z1 := pw_cell_below Z15.out.2.2 z1); (refine hK.out _ _ ⟨q3, z0, z1⟩ (fun hHeld => ?_)); clear hK K; (try simp only [actQ]); (refine HeldTill.step (i := 14) (o := ⟨some 93, _, _, _, _, _⟩) (by kernel_rfl) rfl (fun K hK => ?_)); (have V15 := Aside0.mk ((V14.out.below B14.out).below Z15.out.2.2)); (refine Kd.R_append_rows_step (Kd.int .i64) (w0 := w) w.heap.size (by rfl) (.tmp 83) (.tmp 92) 55 3 (.int .i64 0) 8 rfl Try.underlying55 info3 rfl (by decide) (by omega) (.slice A3 n3 c3) lb L15 _ _ _ (fun k => k ≠ gv) (fun _ => False) rfl rfl V15.out.r3 ?aR (fun _ _ h => h) (fun _ h => h.elim) ?aF V15.out.hb V15.out.hb.size ?aL ?_)
     case aR => have := (Kd.R_reads' Z15.out.1).2.2; rwa [Z15.out.2.1] at this
     case aF => exact fun k hk => by have := blk_lt V15.out.bk; omega
     case aL => have h1 := HLB.out.1; have := HTB.out; have := HM.out; have := HT.out; omega
     (intro v16 w16 ho hb16 hg16 hat16); (obtain ⟨A16, c16, e16⟩ := Kd.R_slice ho); (rw [List.length_append] at e16); (subst e16); (have AP := V15.out.app3 ho hb16 hg16 hat16); (have BK16 := blk_grown (blk_below (blk_below BK14.out B14.out) Z15.out.2.2) hg16 NK3.out); (replace q3 := (blk_cell AP.1 3).trans (show _ = some (Value.slice A3 n3 c3) from rfl)); (replace z0 := bvQ BK16 0 (.int .i64 x0)); (replace z1 := bvQ BK16 1 (.slice A1 n1 c1)); (have fz := blk_frozen AP.1 3); (have V16 := Aside0.mk AP.2); clear ho hb16 hg16 hat16 AP BK16; (refine hK.out _ _ ⟨q3, z0, z1⟩ (fun hHeld => ?_)); clear hK K; (try simp only [actQ]); (refine HeldTill.only (i := 15) (oi := ⟨some 94, _, _, _, _, _⟩) (v := ?_) rfl (by kernel_rfl) (Or.inl ⟨by rfl, ?_⟩) (by assumption) ?_)
     case refine_2 => (intro w hSw; (try dsimp only at hSw); first | (go_simp; done) | (go_simp; with_reducible rfl))
     (try simp only [actQ]); (refine HeldTill.take (i := 16) (oi := ⟨some 95, _, _, _, _, _⟩) (v := ?_) rfl (by kernel_rfl) (by kernel_rfl) (by kernel_rfl) (by kernel_rfl) (fun _ _ _ h => h) (Or.inl ⟨by rfl, ?_⟩) (by assumption) ?_)
     case refine_2 => (intro w hSw; (try dsimp only at hSw); first | (go_simp; done) | (go_simp; with_reducible rfl))
     (try simp only [actQ]); (refine HeldTill.last (o := ⟨none, _, _, _, _, _⟩) (by kernel_rfl) rfl (by kernel_rfl) (fun K hK => ?_)); (go_simp); (generalize w16.setCell ⟨gv, 3, none⟩ (.slice A16 (lb.length + L15.length) c16) = w17 at V16 ⊢); (refine hK.out _ _ ?_); clear hK K; (try simp only [actQ]); (go_wp2); (go_roundg (n - (i + 1)))
     case measure => have := CX.out; have := M1.out; omega
     case rel =>
      (have e1 : totB (pn : Int) (bl.take (i + 1)) = t' := by rw [HTK.out, totB_snoc, ← HT.out, HSZ.out, HT'.out, HMX.out]); (have e2 : firstsB (pn : Int) (bl.take (i + 1)) = fs ++ [t] := by rw [HTK.out, firstsB_snoc, ← HT.out, ← HFS.out]); (refine ⟨i + 1, A10, A16, lb.length + L15.length, c10, c16, lb ++ L15, ?_, ⟨by have := CX.out; omega, Nat.le_refl _⟩, ⟨?_⟩, ⟨?_, List.length_append.symm⟩, ⟨?_⟩⟩)
      (focus ((congr 1); (try rw [i64_w]); (have := CX.out); (have := HN8.out); (unfold wrap64); (omega))); (focus ((rw [HTK.out, List.all_append, HALL.out, Bool.true_and, List.all_cons, List.all_nil, Bool.and_true, HST.out, decide_eq_true CP.out, decide_eq_true CL.out]); (rfl))); (focus ((rw [e1, List.length_append, HT'.out]); (have h1 := HLB.out.1); (have := HT.out); (have := Z15.out.2.1); (omega))); (focus ((rw [e1, e2]); (exact V16.out)))
    (focus ((have clt : ((80 : Int) < (n1 : Int)) = True := eq_true (by omega)); (have cld : decide ((80 : Int) < (n1 : Int)) = true := decide_eq_true (by omega)); (have hbad : bl.all stepB = false := List.all_eq_false.2 ⟨x, HMEM.out, by rw [HST.out, decide_eq_false (show ¬ n1 ≤ 80 from cl), Bool.and_false]; exact Bool.false_ne_true⟩); (have HBAD := Aside0.mk hbad); clear hbad cl cp; (go_wp2_with (first | (go_at_call 33; (with_reducible refine (HWX.out _).mono ?_); rintro e w3 ⟨rfl, zx⟩; have ZX := Aside0.mk zx; replace z0 := pw_cell_below zx z0; replace z1 := pw_cell_below zx z1; clear zx))); (go_ret2); (exact .inr ⟨HBAD.out, rfl, ⟨(by (repeat (first | exact below_step VK.out.hb ZX.out | apply pw_below_drewN | apply below_drew1)))⟩⟩)))
   (focus ((have HWX : Aside0 (∀ W, Calls Try.prog 33 #[.int .i64 x0, .int .i64 0, .int .i64 4] W fun e w' => e = .returned (.bool false) ∧ Below W.heap.size W w') := ⟨fun W => by have := within_told x0 0 4 W; rwa [decide_eq_false cp] at this⟩); (have hbad : bl.all stepB = false := List.all_eq_false.2 ⟨x, HMEM.out, by rw [HST.out, decide_eq_false cp]; exact Bool.false_ne_true⟩); (have HBAD := Aside0.mk hbad); clear hbad cp; (go_wp2_with (first | (go_at_call 33; (with_reducible refine (HWX.out _).mono ?_); rintro e w3 ⟨rfl, zx⟩; have ZX := Aside0.mk zx; replace z0 := pw_cell_below zx z0; replace z1 := pw_cell_below zx z1; clear zx))); (go_ret2); (exact .inr ⟨HBAD.out, rfl, ⟨(by (repeat (first | exact below_step VK.out.hb ZX.out | apply pw_below_drewN | apply below_drew1)))⟩⟩)))
  ·have hi : i = n := by have := M1.out; omega
   (subst hi); (have cxt : ((i : Int) < (i : Int)) = False := eq_false (by omega)); (have htk : bl.take i = bl := by rw [HN.out, List.take_length]); (rw [htk] at HALL VW); clear htk cx M1 HLB; (have x4 := (blk_cell VW.out.bk 4).trans (show _ = some (Value.int .i64 (totB (pn : Int) bl)) from rfl)); (have hbi : (bl.length) = i := HN.out.symm); (obtain ⟨t, ht⟩ : ∃ t, t = totB (pn : Int) bl := ⟨_, rfl⟩); (have HT := Aside0.mk ht); (rw [← ht] at x4); clear ht hbi
   go_upto_region 13 with (fail)
   (refine wp_region_held_drew (S := (fun w' => w'.cell? ⟨gv, 4, none⟩ = some (Value.int .i64 t))) (by kernel_rfl) x4 (fun hHeld => ?_)); (refine tkQ 0 (some 97) ?_)
   (try simp only [actQ]); (refine tkQ 1 (some 98) ?_); (try simp only [actQ]); (refine tkQ 2 (some 99) ?_); (try simp only [actQ]); (refine tkQ 3 (some 100) ?_); (try simp only [actQ]); (refine tkQ 4 (some 101) ?_); (try simp only [actQ]); (refine tkQ 5 (some 102) ?_); (try simp only [actQ]); (refine tkQ 6 (some 2) ?_); (try simp only [actQ]); (refine tkQ 7 (some 3) ?_)
   (try simp only [actQ]); (refine wpAnyH_done (by kernel_rfl) ?_ _); (go_wp2); (go_ret2); (exact .inl ⟨HALL.out, gv, _, _, lb, (by first | (rw [← HT.out]; done) | (rw [← HT.out]; rfl)), ⟨by rw [← HN.out]; exact VW.out.below (Below.drew (Below.refl _ _))⟩⟩)

-- NOT PRINTED: function 69 (impl_Block_69)

-- NOT PRINTED: function 51 (impl_Block_51)

def spec_l1In.f (a0 : Int) (a1 : Int) (a2 : Int) : Option (Bool) := if a0 ≥ a1 then (some (decide (a0 ≤ a2))) else (some false)
theorem spec_l1In.calls (a0 : Int) (a1 : Int) (a2 : Int) (r : Bool) (w : World) (h : spec_l1In.f a0 a1 a2 = some r) :
  Calls Try.prog 29 #[.int .i64 a0, .int .i64 a1, .int .i64 a2] w fun e w' => e = .returned (.bool r) ∧ Drawn0 w w' := by
 (have H : (if a0 ≥ a1 then (some (decide (a0 ≤ a2))) else (some false)) = some r := h); clear h; (by_cases c4 : a0 ≥ a1)
 (focus ((rw [if_pos c4] at H); (have c4b0 := decide_eq_true c4); clear c4; (obtain rfl := Option.some.inj H); (go_enter Try.func29, Try.ntmps29); (go_wp2); (go_ret); (exact ⟨rsQ, by repeat (first | exact Drawn0.refl _ | apply Drawn0.step)⟩))); (focus ((rw [if_neg c4] at H); (have c4b0 := decide_eq_false c4); clear c4; (obtain rfl := Option.some.inj H); (go_enter Try.func29, Try.ntmps29); (go_wp2); (go_ret); (exact ⟨rsQ, by repeat (first | exact Drawn0.refl _ | apply Drawn0.step)⟩)))

def spec_l1All.l0 : Nat → Int → Int → List Int → Int → Int → Option (Bool)
 | 0, _, _, _, _, _ => none
 | k + 1, x1, x2, x9, x10, x11 => if x11 < x10 then (if 0 ≤ x11 then (if x11 < (x9.length : Int) then ((spec_l1In.f (rd x9 x11) x1 x2).bind fun t119 => (if t119 = true then (spec_l1All.l0 k x1 x2 x9 x10 (wrap64 (x11 + 1))) else (some false))) else (none)) else (none)) else (some true)
def spec_l1All.f (k : Nat) (l0 : List Int) (a1 : Int) (a2 : Int) : Option (Bool) := spec_l1All.l0 k a1 a2 l0 (l0.length : Int) 0
theorem spec_l1All.calls (k : Nat) (A0 : Option Addr) (c0 : Nat) (l0 : List Int) (a1 : Int) (a2 : Int) (r : Bool) (w : World) (hr0 : Kd.C (Kd.int .i64) w A0 l0.length l0) (hc0 : l0.length ≤ c0) (h : spec_l1All.f k l0 a1 a2 = some r) :
  Calls Try.prog 41 #[.slice A0 l0.length c0, .int .i64 a1, .int .i64 a2] w fun e w' => e = .returned (.bool r) ∧ Drawn0 w w' := by
 (have HR0 := Aside0.mk hr0); (have HC0 := Aside0.mk hc0); clear hr0 hc0; (have H : (spec_l1All.l0 k a1 a2 l0 (l0.length : Int) 0) = some r := h); clear h; (have H' := Aside0.mk H); clear H; (go_enter Try.func41, Try.ntmps41); (go_wp2)
 go_loopg [11] k (fun kq v11 w' => ∃ (x11_1 : Int), v11 = .int .i64 x11_1 ∧ Aside0 (spec_l1All.l0 kq a1 a2 l0 (l0.length : Int) x11_1 = some r) ∧ Aside0 (kq ≤ k) ∧ Drawn0 w w')
 case atStart => exact ⟨(0), rsQ, H', ⟨Nat.le_refl _⟩, by repeat (first | exact Drawn0.refl _ | apply Drawn0.step)⟩
 case round =>
  clear H'; (try clear p2); (obtain ⟨x11_1, rfl, HA, HK1, ⟨m1, rfl⟩⟩ := hrel)
  cases gk with
  | zero => exact absurd HA.out (by simp [spec_l1All.l0])
  | succ k1 =>
   (have H := HA.out); clear HA; (simp only [spec_l1All.l0] at H); (by_cases c4 : x11_1 < (l0.length : Int))
   ·rw [if_pos c4] at H
    (have c4b0 := decide_eq_true c4); clear c4; (by_cases c5 : 0 ≤ x11_1)
    ·rw [if_pos c5] at H
     (have c5b0 := decide_eq_true c5); clear c5; (by_cases c6 : x11_1 < (l0.length : Int))
     ·rw [if_pos c6] at H
      (have c6b0 := decide_eq_true c6); clear c6; (obtain ⟨t119, A70, H⟩ := Option.bind_eq_some_iff.mp H); (replace H : (if t119 = true then (spec_l1All.l0 k1 a1 a2 l0 (l0.length : Int) (wrap64 (x11_1 + 1))) else (some false)) = some r := H); (have A7 := Aside0.mk A70); clear A70; (by_cases c8 : t119 = true)
      ·subst c8
       (have H1 : (spec_l1All.l0 k1 a1 a2 l0 (l0.length : Int) (wrap64 (x11_1 + 1))) = some r := by rw [if_pos rfl] at H; exact H); clear H; (have H := H1); clear H1; (have H' := Aside0.mk H); clear H; (have p118 : 0 ≤ (x11_1 : Int) := odQ); (have q118 : x11_1 < (l0.length : Int) := odQ); (obtain ⟨ad118, e118, hx118_0⟩ := Kd.at_int HR0.out x11_1 p118 q118); (cases e118); (replace p118 := eq_true p118); (replace q118 := eq_true q118); (go_wp2_with (first | ((with_reducible refine gate_callee (f := 29) rfl ?_); refine goesL_ (some 18) rfl rfl Try.func29 (by kernel_rfl) rfl #[.int .i64 (rd l0 x11_1), .int .i64 a1, .int .i64 a2] rfl eqQ ?_; (with_reducible refine (spec_l1In.calls (rd l0 x11_1) a1 a2 true _ A7.out).mono ?_); rintro e w' ⟨rfl, ⟨nd, rfl⟩⟩; refine ⟨_, rfl, ?_⟩))); (go_roundg k1)
       case measure => have := HK1.out; omega
       case rel => exact ⟨(wrap64 (x11_1 + 1)), rsQ, H', ⟨by have := HK1.out; omega⟩, by repeat (first | exact Drawn0.refl _ | apply Drawn0.step)⟩
      (focus ((replace c8 := Bool.eq_false_iff.mpr c8); (subst c8); (have H1 : (some false) = some r := by rw [if_neg (show ¬ (false = true) by decide)] at H; exact H); clear H; (have H := H1); clear H1; (obtain rfl := Option.some.inj H); (have p118 : 0 ≤ (x11_1 : Int) := odQ); (have q118 : x11_1 < (l0.length : Int) := odQ); (obtain ⟨ad118, e118, hx118_0⟩ := Kd.at_int HR0.out x11_1 p118 q118); (cases e118); (replace p118 := eq_true p118); (replace q118 := eq_true q118); (go_wp2_with (first | ((with_reducible refine gate_callee (f := 29) rfl ?_); refine goesL_ (some 18) rfl rfl Try.func29 (by kernel_rfl) rfl #[.int .i64 (rd l0 x11_1), .int .i64 a1, .int .i64 a2] rfl eqQ ?_; (with_reducible refine (spec_l1In.calls (rd l0 x11_1) a1 a2 false _ A7.out).mono ?_); rintro e w' ⟨rfl, ⟨nd, rfl⟩⟩; refine ⟨_, rfl, ?_⟩))); (go_ret); (exact ⟨rsQ, by repeat (first | exact Drawn0.refl _ | apply Drawn0.step)⟩)))
     (focus ((rw [if_neg c6] at H); (exact absurd H (by simp))))
    (focus ((rw [if_neg c5] at H); (exact absurd H (by simp))))
   (focus ((rw [if_neg c4] at H); (have c4b0 := decide_eq_false c4); clear c4; (obtain rfl := Option.some.inj H); (go_wp2); (go_ret); (exact ⟨rsQ, by repeat (first | exact Drawn0.refl _ | apply Drawn0.step)⟩)))

end Go.Proofs.Ytpklnipnggocoaa.PFnExactRunFunc
