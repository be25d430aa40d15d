/- The state of a walk that makes trees: two rows of pointers to trees. No condition. -/
import Derived.Test.YtakblgcheakbnaaTree
set_option linter.unusedVariables false
namespace Go.Proofs.Ytakblgcheakbnaa.Tree
open Go Go.RowKit Go.Proofs.YtakblgcheakbnaaW.PrintWords
theorem row_slice {w : World} {b : Nat} {ok : Nat → Prop} {v : Value} {xs : List Addr} (h : ptrK.R 99 w b ok v xs) : ∃ (A : Option Addr) (c : Nat), v = .slice A xs.length c ∧ xs.length ≤ c ∧ ptrK.C w A xs.length xs := by
  obtain ⟨inner, ho⟩ := Kd.R_own h
  obtain ⟨A, c, rfl⟩ := own_slice ho
  exact ⟨A, c, rfl, (Kd.R_reads' h).2.1, (Kd.R_reads' h).2.2⟩
theorem row_C {w : World} {b c n : Nat} {ok : Nat → Prop} {A : Option Addr} {xs : List Addr} (h : ptrK.R 99 w b ok (.slice A n c) xs) : ptrK.C w A xs.length xs := (Kd.R_reads' h).2.2
theorem grown_below {a b : World} (h : Below a.heap.size a b) : a.grownBy b none := ⟨h.os, h.tape, h.output, h.size, fun k hk _ => h.block k hk⟩
def apart (w : World) (v3 v4 : Value) : Nat → Prop := fun k => w.heap.size ≤ k ∧ some k ≠ v3.ownBlock ∧ some k ≠ v4.ownBlock
structure St (w W : World) (v3 v4 : Value) (s : List Tr × List Tr) (p o : List Addr) : Prop where
  r3 : ptrK.R 99 W w.heap.size (fun _ => True) v3 p
  r4 : ptrK.R 99 W w.heap.size (fun _ => True) v4 o
  ap : ∀ k, v3.ownBlock = some k → v4.ownBlock ≠ some k
  t3 : Trees W (apart w v3 v4) s.1 p
  t4 : Trees W (apart w v3 v4) s.2 o
  hb : Below w.heap.size w W
variable {w W : World} {v3 v4 : Value} {s : List Tr × List Tr} {p o : List Addr}
theorem St.below {W' : World} (h : St w W v3 v4 s p o) (hb : Below W.heap.size W W') : St w W' v3 v4 s p o :=
  ⟨Kd.R_grown h.r3 (grown_below hb) (fun _ _ => by simp), Kd.R_grown h.r4 (grown_below hb) (fun _ _ => by simp), h.ap, h.t3.below hb, h.t4.below hb, below_step h.hb hb⟩
theorem St.take {A : Option Addr} {n c m : Nat} (h : St w W (.slice A n c) v4 s p o) (hm : m ≤ p.length) : St w W (.slice A m c) v4 (s.1.take m, s.2) (p.take m) o := by
  have hob : ∀ x y : Nat, (Value.slice A x c).ownBlock = (Value.slice A y c).ownBlock := by intro x y; cases A <;> rfl
  have hap : ∀ k, apart w (.slice A n c) v4 k → apart w (.slice A m c) v4 k := fun k hk => ⟨hk.1, by rw [hob m n]; exact hk.2.1, hk.2.2⟩
  exact ⟨Kd.R_take h.r3 hm, h.r4, fun k hk => h.ap k (by rw [hob n m]; exact hk), (h.t3.take m).imp hap, h.t4.imp hap, h.hb⟩
theorem own_after {v v1 : Value} (hat : v1.ownBlock = v.ownBlock ∨ ∃ b, v1.ownBlock = some b ∧ W.heap.size ≤ b) {k : Nat} (hk : some k ≠ v.ownBlock) (hlt : k < W.heap.size) : some k ≠ v1.ownBlock := by
  rcases hat with e | ⟨b, e, hb⟩
  · rw [e]; exact hk
  · rw [e]; intro he; injection he with he; omega
theorem St.push3 {W1 : World} {v3' : Value} {T : Tr} {a : Addr} (h : St w W v3 v4 s p o) (hT : Tree W (apart w v3 v4) T a) (hR : ptrK.R 99 W1 w.heap.size (fun _ => True) v3' (p ++ [a]))
    (hg : W.grownBy W1 v3.ownBlock) (hat : v3'.ownBlock = v3.ownBlock ∨ ∃ b, v3'.ownBlock = some b ∧ W.heap.size ≤ b) (hb : Below w.heap.size w W1) :
    St w W1 v3' v4 (s.1 ++ [T], s.2) (p ++ [a]) o ∧ Tree W1 (apart w v3' v4) T a := by
  have hm : ∀ k, apart w v3 v4 k ∧ k < W.heap.size → W1.heap[k]? = W.heap[k]? := fun k hk => hg.block k hk.2 hk.1.2.1
  have hk : ∀ k, apart w v3 v4 k ∧ k < W.heap.size → apart w v3' v4 k := fun k hk => ⟨hk.1.1, own_after hat hk.1.2.1 hk.2, hk.1.2.2⟩
  have hT' := (hT.bound.move hm).imp hk
  have h34 : ∀ k, v4.ownBlock = some k → some k ≠ v3.ownBlock := fun k hk he => h.ap k he.symm hk
  refine ⟨⟨hR, ?_, ?_, ((h.t3.bound.move hm).imp hk).snoc hT', (h.t4.bound.move hm).imp hk, hb⟩, hT'⟩
  · exact Kd.R_grown2 h.r4 rfl hg (fun k hk he => h.ap k hk he.symm)
  · intro k hk he
    exact own_after hat (h34 k he) (Kd.R_lt h.r4 k he) hk.symm
theorem St.push4 {W1 : World} {v4' : Value} {T : Tr} {a : Addr} (h : St w W v3 v4 s p o) (hT : Tree W (apart w v3 v4) T a) (hR : ptrK.R 99 W1 w.heap.size (fun _ => True) v4' (o ++ [a]))
    (hg : W.grownBy W1 v4.ownBlock) (hat : v4'.ownBlock = v4.ownBlock ∨ ∃ b, v4'.ownBlock = some b ∧ W.heap.size ≤ b) (hb : Below w.heap.size w W1) :
    St w W1 v3 v4' (s.1, s.2 ++ [T]) p (o ++ [a]) := by
  have hm : ∀ k, apart w v3 v4 k ∧ k < W.heap.size → W1.heap[k]? = W.heap[k]? := fun k hk => hg.block k hk.2 hk.1.2.2
  have hk : ∀ k, apart w v3 v4 k ∧ k < W.heap.size → apart w v3 v4' k := fun k hk => ⟨hk.1.1, hk.1.2.1, own_after hat hk.1.2.2 hk.2⟩
  have hT' := (hT.bound.move hm).imp hk
  have h34 : ∀ k, v3.ownBlock = some k → some k ≠ v4.ownBlock := fun k hk he => h.ap k hk he.symm
  refine ⟨?_, hR, ?_, (h.t3.bound.move hm).imp hk, ((h.t4.bound.move hm).imp hk).snoc hT', hb⟩
  · exact Kd.R_grown2 h.r3 rfl hg (fun k hk he => h34 k he.symm hk.symm)
  · intro k hk he
    exact own_after hat (h34 k hk) (Kd.R_lt h.r3 k hk) he.symm
/-- A node over the pile's end, made of a copy of it. -/
theorem St.node {W1 W2 : World} {v0 : Value} {op n : Int} {m g : Nat} (h : St w W v3 v4 s p o) (hR : ptrK.R 99 W1 W.heap.size (fun _ => True) v0 (p.drop m)) (hb : Below W.heap.size W W1) (hb2 : Below W1.heap.size W1 W2)
    (h0 : W2.cell? ⟨g, 0, none⟩ = some (.int .i64 op)) (h1 : W2.cell? ⟨g, 1, none⟩ = some (.int .i64 n)) (h2 : W2.cell? ⟨g, 2, none⟩ = some v0) (hg : W.heap.size ≤ g) :
    St w W2 v3 v4 s p o ∧ Tree W2 (apart w v3 v4) (.mk op n (s.1.drop m)) ⟨g, 0, none⟩ := by
  have h' := (h.below hb).below hb2
  have hx : ∀ k, W.heap.size ≤ k → apart w v3 v4 k := fun k hk => ⟨Nat.le_trans h.hb.size hk, fun he => by have := Kd.R_lt h.r3 k he.symm; omega, fun he => by have := Kd.R_lt h.r4 k he.symm; omega⟩
  refine ⟨h', ?_⟩
  have hR2 := Kd.R_grown hR (grown_below hb2) (fun _ _ => by simp)
  have hlow := Kd.R_base hR2
  obtain ⟨A, c, rfl, hc, hC⟩ := row_slice hR2
  have hl : (p.drop m).length = (s.1.drop m).length := by rw [List.length_drop, List.length_drop, h.t3.1]
  rw [hl] at h2 hc hC
  exact Tree.mk h0 h1 h2 hc hC (h'.t3.drop m) (hx g hg) (fun _ x hA => hx x.block (hlow x.block (by subst hA; rfl)))
theorem apart_take {A : Option Addr} {n m c : Nat} : ∀ k, apart w (.slice A n c) v4 k → apart w (.slice A m c) v4 k := by
  have hob : (Value.slice A m c).ownBlock = (Value.slice A n c).ownBlock := by cases A <;> rfl
  exact fun k hk => ⟨hk.1, by rw [hob]; exact hk.2.1, hk.2.2⟩
theorem St.nodeT {W1 W2 : World} {A : Option Addr} {c k : Nat} {v0 : Value} {op n : Int} {m g : Nat} (h : St w W (.slice A k c) v4 s p o) (hR : ptrK.R 99 W1 W.heap.size (fun _ => True) v0 (p.drop m)) (hb : Below W.heap.size W W1) (hb2 : Below W1.heap.size W1 W2)
    (h0 : W2.cell? ⟨g, 0, none⟩ = some (.int .i64 op)) (h1 : W2.cell? ⟨g, 1, none⟩ = some (.int .i64 n)) (h2 : W2.cell? ⟨g, 2, none⟩ = some v0) (hg : W.heap.size ≤ g) (hm : m ≤ p.length) :
    St w W2 (.slice A m c) v4 (s.1.take m, s.2) (p.take m) o ∧ Tree W2 (apart w (.slice A m c) v4) (.mk op n (s.1.drop m)) ⟨g, 0, none⟩ := by
  have := h.node hR hb hb2 h0 h1 h2 hg
  exact ⟨this.1.take hm, this.2.imp apart_take⟩
end Go.Proofs.Ytakblgcheakbnaa.Tree
