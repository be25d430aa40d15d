/- Functions of the program and of the reference as plain Lean functions, and what their calls come to; partly printed by a program, partly by hand; no condition beyond what each theorem says. -/
import Derived.Test.YtakblgcheakbnaaPFnExactExtractx0
import Derived.Test.YtakblgcheakbnaaPFnExactExtractx14
import Derived.Test.YtakblgcheakbnaaPFnExactExtractx16
namespace Go.Proofs.Ytakblgcheakbnaa.PFnExactExtract
open Go.RowKit Go.Proofs.YtakblgcheakbnaaW.PrintWords Go.Proofs.YtakblgcheakbnaaW.PrintLast Go.Proofs.YtakblgcheakbnaaW.PrintMore
attribute [local go_sem] max2_int min2_int max_two min_two max_three min_three max_four min_four   -- for this text's walks alone
set_option linter.unusedVariables false
set_option linter.unusedSimpArgs false

/-! ### (*impl.EGraph).extract: function 135, by hand -/
section
variable {P : Program} {ops : Array Oper} {Q : Exit → Act → World → Prop} {md : Region.Mode} {S : World → Prop} {l : Nat}
/-- S is held behind each operation but number l (a store that all the others come ahead of: it may end S). -/
def HeldTill (P : Program) (md : Region.Mode) (ops : Array Oper) (Q : Exit → Act → World → Prop) (S : World → Prop) (l : Nat) : Nat → Array Bool → Act → World → Prop
  | 0, listed, a, w => Region.ready md ops listed = [] ∧ Q .normal a w
  | n + 1, listed, a, w => (Region.ready md ops listed = [] → Q .normal a w) ∧ ∀ j ∈ Region.ready md ops listed, wpOp P ops Q j (fun a' w' => (j ≠ l → S w') ∧ HeldTill P md ops Q S l n (listed.setIfInBounds j true) a' w') a w
theorem HeldTill.any : ∀ (n : Nat) (listed : Array Bool) (a : Act) (w : World), HeldTill P md ops Q S l n listed a w → wpAny P md ops Q n listed a w
  | 0, _, _, _, h => h
  | n + 1, _, _, _, h => ⟨h.1, fun j hj => wpOp_mono (fun a' w' h' => HeldTill.any n _ a' w' h'.2) (h.2 j hj)⟩
theorem HeldTill.first {i : Nat} {oi : Oper} {v : Value} (hi : ops[i]? = some oi) (hsel : ∀ (j : Nat) (o : Oper) cs b, ops[j]? = some o → o.op ≠ .select cs b)
    (hQ : ∀ c a w, Q (.panic c) (a.put oi.dst v) w → Q (.panic c) a w) (hl : ∃ ol, ops[l]? = some ol ∧ ∃ e ∈ ol.after, Region.binds md e = true ∧ e.on = i) :
    ∀ (n : Nat) (listed : Array Bool) (a : Act) (w : World),
      (∀ j oj, ops[j]? = some oj → j ≠ i → listed.getD j true = false → (∀ e ∈ oj.after, Region.binds md e = true → e.on ≠ i) → oi.apart ops oj = true) →
      i ∈ Region.ready md ops listed → YieldsIf P ops S oi v a → S w →
      HeldTill P md ops Q S l n (listed.setIfInBounds i true) (a.put oi.dst v) w → HeldTill P md ops Q S l (n + 1) listed a w := by
  intro n
  induction n with
  | zero =>
    intro listed a w _ hr hy hS H
    refine ⟨fun h => (by rw [h] at hr; cases hr), fun j hj => ?_⟩
    by_cases hji : j = i
    (focus ((subst hji; exact hy.wpOp hi hS ⟨fun _ => hS, H⟩)))
    · have := ready_mono hj hji
      rw [H.1] at this
      cases this
  | succ n ih =>
    intro listed a w hfree hr hy hS H
    refine ⟨fun h => (by rw [h] at hr; cases hr), fun j hj => ?_⟩
    by_cases hji : j = i
    (focus ((subst hji; exact hy.wpOp hi hS ⟨fun _ => hS, H⟩)))
    · have h1 := H.2 j (ready_mono hj hji)
      obtain ⟨hjun, oj, hoj, hall⟩ := mem_ready.1 hj
      have hnot : ∀ e ∈ oj.after, Region.binds md e = true → e.on ≠ i := fun e he hb heq => by
        have h1 := hall e he hb
        have h0 := (mem_ready.1 hr).1
        rw [heq] at h1
        rcases Nat.lt_or_ge i listed.size with h' | h'
        (focus ((simp [h'] at h0 h1; rw [h0] at h1; cases h1)))
        (focus ((simp [Array.getElem?_eq_none h'] at h1)))
      have hjl : j ≠ l := by
        rintro rfl
        obtain ⟨ol, hol, e, he, hb, heq⟩ := hl
        rw [hoj] at hol
        injection hol with hol
        subst hol
        exact hnot e he hb heq
      have h2 := wpOp_putIf hoj (hfree j oj hoj hji hjun hnot) (fun cs b => hsel i oi cs b hi) (fun cs b => hsel j oj cs b hoj) hQ hy h1
      have hfree' : ∀ k ok, ops[k]? = some ok → k ≠ i → (listed.setIfInBounds j true).getD k true = false →
          (∀ e ∈ ok.after, Region.binds md e = true → e.on ≠ i) → oi.apart ops ok = true := fun k ok hk hki hun hno => by
        refine hfree k ok hk hki ?_ hno
        by_cases hjk : j = k
        (focus ((subst hjk; exact hjun)))
        (focus ((rw [Go.getD_set_ne true hjk] at hun; exact hun)))
      refine wpOp_mono (fun a' w' h3 => ⟨fun _ => h3.2.1 hjl, ih (listed.setIfInBounds j true) a' w' hfree' (ready_mono hr (Ne.symm hji)) h3.1 (h3.2.1 hjl) ?_⟩) h2
      rw [Array.setIfInBounds_comm _ _ hji]
      exact h3.2.2
theorem HeldTill.take {i : Nat} {oi : Oper} {v : Value} {n : Nat} {listed : Array Bool} {a : Act} {w : World} (hi : ops[i]? = some oi)
    (hs : Region.noSelect ops = true) (hf : Region.free md ops listed i = true) (hr : (Region.ready md ops listed).contains i = true)
    (hl : ((ops[l]?).map fun ol => ol.after.any fun e => Region.binds md e && e.on == i) = some true)
    (hQ : ∀ c a w, Q (.panic c) (a.put oi.dst v) w → Q (.panic c) a w) (hy : YieldsIf P ops S oi v a) (hS : S w)
    (h : HeldTill P md ops Q S l n (listed.setIfInBounds i true) (a.put oi.dst v) w) : HeldTill P md ops Q S l (n + 1) listed a w := by
  (refine HeldTill.first hi (Region.noSelect_spec hs) hQ ?_ n listed a w (Region.free_spec hi hf) (by simpa using hr) hy hS h); (obtain ⟨ol, hol, ha⟩ := Option.map_eq_some_iff.1 hl); (rw [Array.any_eq_true'] at ha); (obtain ⟨e, he, hb⟩ := ha); (rw [Bool.and_eq_true, beq_iff_eq] at hb); (exact ⟨ol, hol, e, he, hb.1, hb.2⟩)
theorem HeldTill.only {i : Nat} {oi : Oper} {v : Value} {n : Nat} {listed : Array Bool} {a : Act} {w : World} (hi : ops[i]? = some oi) (hr : Region.ready md ops listed = [i]) (hy : YieldsIf P ops S oi v a) (hS : S w)
    (h : HeldTill P md ops Q S l n (listed.setIfInBounds i true) (a.put oi.dst v) w) : HeldTill P md ops Q S l (n + 1) listed a w := by
  (refine ⟨fun h0 => (by rw [hr] at h0; cases h0), fun j hj => ?_⟩); (rw [hr] at hj); (obtain rfl := List.mem_singleton.1 hj); (exact hy.wpOp hi hS ⟨fun _ => hS, h⟩)
theorem HeldTill.step {i : Nat} {o : Oper} {n : Nat} {listed : Array Bool} {a : Act} {w : World} (hr : Region.ready md ops listed = [i]) (ho : ops[i]? = some o)
    (h : ∀ K' : Act → World → Prop, Shut (∀ a w, S w → (S w → HeldTill P md ops Q S l n (listed.setIfInBounds i true) a w) → K' a w) → if Region.wanted o (yielded ops a.tmps) = true then Oper.wp P o a w K' Q else K' (a.put o.dst undef) w) :
    HeldTill P md ops Q S l (n + 1) listed a w := by
  (refine ⟨fun h0 => (by rw [hr] at h0; cases h0), fun j hj => ?_⟩); (rw [hr] at hj); (obtain rfl := List.mem_singleton.1 hj); (exact wpOp_step ho (fun K' hK => h K' (fun a w hS hW => hK a w ⟨fun _ => hS, hW hS⟩)))
theorem HeldTill.last {o : Oper} {n : Nat} {listed : Array Bool} {a : Act} {w : World} (hr : Region.ready md ops listed = [l]) (ho : ops[l]? = some o) (hd : Region.ready md ops (listed.setIfInBounds l true) = [])
    (h : ∀ K' : Act → World → Prop, Shut (∀ a w, Q .normal a w → K' a w) → if Region.wanted o (yielded ops a.tmps) = true then Oper.wp P o a w K' Q else K' (a.put o.dst undef) w) :
    HeldTill P md ops Q S l (n + 1) listed a w := by
  (refine ⟨fun h0 => (by rw [hr] at h0; cases h0), fun j hj => ?_⟩); (rw [hr] at hj); (obtain rfl := List.mem_singleton.1 hj); (refine wpOp_step ho (fun K' hK => h K' (fun a w hq => hK a w ⟨fun h => absurd rfl h, ?_⟩)))
  cases n with
  | zero => exact ⟨hd, hq⟩
  | succ n => exact ⟨fun _ => hq, fun j hj => by rw [hd] at hj; cases hj⟩
theorem region_held_till {id : Nat} {a : Act} {w : World} (l : Nat) (hm : P.follows .mixedOrders = true) (hS : S w.drew)
    (h : S w.drew → HeldTill P .any ops Q S l ops.size (Array.replicate ops.size false) a w.drew) : (Code.region id ops true).wp P Q a w := by
  (have := HeldTill.any _ _ _ _ (h hS)); (exact wp_region_any hm this)
end
theorem infoPtr' : (Try.prog.info? 99).map (fun i => (i.zero, i.size, i.bytes)) = some (some (.pointer none), 1, 8) := by kernel_rfl
def mapO {α β : Type} (f : α → Option β) : List α → Option (List β) | [] => some [] | x :: l => (f x).bind fun y => (mapO f l).map fun ys => y :: ys
theorem mapO_get {α β : Type} {f : α → Option β} : ∀ {l : List α} {ys : List β}, mapO f l = some ys → ys.length = l.length ∧ ∀ (i : Nat) (h : i < l.length) (h' : i < ys.length), f l[i] = some ys[i] := by
  intro l
  induction l with
  | nil => intro ys h; obtain rfl := Option.some.inj h; exact ⟨rfl, fun i h => absurd h (Nat.not_lt_zero _)⟩
  | cons x l ih =>
    (intro ys h); (obtain ⟨y, h1, h⟩ := Option.bind_eq_some_iff.1 h); (obtain ⟨zs, h2, rfl⟩ := Option.map_eq_some_iff.1 h); (obtain ⟨h3, h4⟩ := ih h2); (refine ⟨by simp [h3], fun i h h' => ?_⟩)
    cases i with
    | zero => exact h1
    | succ i => exact h4 i (by simpa using h) (by simpa using h')
/-- The tree that extract makes. -/
def exT (k : Nat) (n : List S114) (p best : List Int) : Nat → Int → Option Tree.Tr
  | 0, _ => none
  | d + 1, c => (impl_EGraph_chosen.f k n p c best).bind fun j => if 0 ≤ j ∧ j < (n.length : Int) then (mapO (fun x => exT k n p best d x) (rd_T114 n j).f2).map fun Ts => .mk (rd_T114 n j).f0 (rd_T114 n j).f1 Ts else none
/-- A tree's node whose kids are put in, one behind the other. -/
structure Ex (w W : World) (gt : Nat) (op nn : Int) (v : Value) (Ts : List Tree.Tr) (az : List Addr) : Prop where
  bt : W.heap[gt]? = some (.cells #[.int .i64 op, .int .i64 nn, v] 176 (0, 0))
  r : Kd.R Tree.ptrK 99 W w.heap.size (fun k => k ≠ gt) v az
  t : Tree.Trees W (fun k => w.heap.size ≤ k ∧ some k ≠ v.ownBlock ∧ k ≠ gt) Ts az
  hb : Below w.heap.size w W
  hg : w.heap.size ≤ gt
section
variable {w W W' W1 : World} {gt : Nat} {op nn : Int} {v v' : Value} {Ts : List Tree.Tr} {az : List Addr} {T : Tree.Tr} {a : Addr}
theorem Ex.below (h : Ex w W gt op nn v Ts az) (hb : Below W.heap.size W W') : Ex w W' gt op nn v Ts az :=
  ⟨blk_below h.bt hb, Kd.R_below h.r hb, h.t.below hb, below_step h.hb hb, h.hg⟩
theorem Ex.push (h : Ex w W gt op nn v Ts az) (hT : Tree.Tree W1 (fun k => W.heap.size ≤ k) T a) (hb : Below W.heap.size W W1) {w2 : World} (hR : Kd.R Tree.ptrK 99 w2 w.heap.size (fun k => k ≠ gt) v' (az ++ [a]))
    (hg : W1.grownBy w2 v.ownBlock) (hat : v'.ownBlock = v.ownBlock ∨ ∃ b, v'.ownBlock = some b ∧ W1.heap.size ≤ b) (hb2 : Below w.heap.size w w2) : w2.heap[gt]? = some (.cells #[.int .i64 op, .int .i64 nn, v] 176 (0, 0)) ∧ Ex w (w2.setCell ⟨gt, 2, none⟩ v') gt op nn v' (Ts ++ [T]) (az ++ [a]) := by
  (have h1 := h.below hb); (have hlt := blk_lt h.bt); (have ng : some gt ≠ v.ownBlock := fun e => h.r.1 gt e.symm rfl); (have b1 := blk_grown h1.bt hg ng)
  have hk : ∀ k, (w.heap.size ≤ k ∧ some k ≠ v.ownBlock ∧ k ≠ gt) ∧ k < W1.heap.size → w.heap.size ≤ k ∧ some k ≠ v'.ownBlock ∧ k ≠ gt := by
    (rintro k ⟨⟨q1, q2, q3⟩, q4⟩); (refine ⟨q1, ?_, q3⟩)
    rcases hat with e | ⟨b, e, hb⟩
    (focus ((rw [e]; exact q2))); (focus ((rw [e]; intro he; injection he with he; omega)))
  have hm : ∀ k, (w.heap.size ≤ k ∧ some k ≠ v.ownBlock ∧ k ≠ gt) ∧ k < W1.heap.size → (w2.setCell ⟨gt, 2, none⟩ v').heap[k]? = W1.heap[k]? := by
    (rintro k ⟨⟨q1, q2, q3⟩, q4⟩); (exact (Below.heap_setCell w2 ⟨gt, 2, none⟩ v' k q3).trans (hg.block k q4 q2))
  have hT' : Tree.Tree W1 (fun k => (w.heap.size ≤ k ∧ some k ≠ v.ownBlock ∧ k ≠ gt) ∧ k < W1.heap.size) T a := by
    (refine hT.bound.imp (fun k hk => ⟨⟨Nat.le_trans h.hb.size hk.1, fun e => ?_, ?_⟩, hk.2⟩)); (focus ((have := Kd.R_lt h.r k e.symm); (have := hk.1); (omega))); (focus ((have := hk.1); (omega)))
  exact ⟨b1, blk_set b1 2 v', Kd.R_far hR (fun k hk => hk) _, ((h1.t.bound.move hm).imp hk).snoc ((hT'.move hm).imp hk), below_set hb2 h.hg, h.hg⟩
theorem Ex.done (h : Ex w W gt op nn v Ts az) : Tree.Tree W (fun k => w.heap.size ≤ k) (.mk op nn Ts) ⟨gt, 0, none⟩ := by
  (obtain ⟨A, c, rfl, hc, hC⟩ := Tree.row_slice h.r); (have hlow := Kd.R_base h.r); (have hl := h.t.1); (rw [hl] at hc hC); (refine Tree.Tree.mk ((blk_cell h.bt 0).trans rfl) ((blk_cell h.bt 1).trans rfl) ((blk_cell h.bt 2).trans (by rw [← hl]; rfl)) hc hC (h.t.imp fun k hk => hk.1) h.hg (fun _ x hA => hlow x.block (by subst hA; rfl)))
end
def ExtSays (k : Nat) (n : List S114) (p best : List Int) (d : Nat) : Prop := ∀ (c : Int) (T : Tree.Tr) (A0 A1 A2 : Option Addr) (c0 c1 c2 gp : Nat) (w : World), exT k n p best d c = some T → Kd.C k114 w A0 n.length n → n.length ≤ c0 → Kd.C (Kd.int .i64) w A1 p.length p → p.length ≤ c1 → Kd.C (Kd.int .i64) w A2 best.length best → best.length ≤ c2 → w.heap[gp]? = some (.cells #[.slice A0 n.length c0, .slice A1 p.length c1] 34 (0, 0)) →
    Calls Try.prog 135 #[.pointer (some ⟨gp, 0, none⟩), .int .i64 c, .slice A2 best.length c2] w fun e w' => ∃ a, e = .returned (.pointer (some a)) ∧ Aside0 (Tree.Tree w' (fun k => w.heap.size ≤ k) T a ∧ Below w.heap.size w w')
set_option maxHeartbeats 8000000 in
set_option maxRecDepth 100000 in
theorem extract_step (k : Nat) (n : List S114) (p best : List Int) (hs : ∀ x ∈ n, x.f2.length ≤ 1000000) {d : Nat} (ih : ExtSays k n p best d) : ExtSays k n p best (d + 1) := by
  (intro c T A0 A1 A2 c0 c1 c2 gp w h hC0 hc0 hC1 hc1 hC2 hc2 hgp); (have hug := Try.underlying34); (have hue := Try.underlying114); (have hut := Try.underlying176); (obtain ⟨j, hj, h⟩ := Option.bind_eq_some_iff.1 (show (impl_EGraph_chosen.f k n p c best).bind _ = some T from h)); (by_cases hjr : 0 ≤ j ∧ j < (n.length : Int))
  case neg => rw [if_neg hjr] at h; exact absurd h (by simp)
  (rw [if_pos hjr] at h); (obtain ⟨Ts, hTs, rfl⟩ := Option.map_eq_some_iff.1 h); (clear h)
  have HCH : Aside0 (∀ W, Below w.heap.size w W → Calls Try.prog 120 #[.pointer (some ⟨gp, 0, none⟩), .int .i64 c, .slice A2 best.length c2] W fun e w' => e = .returned (.int .i64 j) ∧ Aside0 (Below w.heap.size w w' ∧ Below W.heap.size W w')) :=
    ⟨fun W hW => (impl_EGraph_chosen.calls k A0 c0 n A1 c1 p c A2 c2 best j W (Kd.C_below hC0 hW) hc0 (Kd.C_below hC1 hW) hc1 (Kd.C_below hC2 hW) hc2 hj (blk_below hgp hW)).mono fun e w' ⟨h1, h2⟩ => ⟨h1, ⟨below_step hW h2, h2⟩⟩⟩
  (obtain ⟨ad, AK, ck, e0, x0, x1, x2, lk, gk⟩ := at_T114 hC0 j hjr.1 hjr.2); (cases e0); (obtain ⟨hTl, hTi⟩ := mapO_get hTs); (have HCK := Aside0.mk gk); (have y0 := (blk_cell hgp 0).trans (show _ = some (Value.slice (some ad) n.length c0) from rfl))
  have HEX : Aside0 (∀ (i : Nat) (hi : i < (rd_T114 n j).f2.length) (hi' : i < Ts.length) (W : World), Below w.heap.size w W → Calls Try.prog 135 #[.pointer (some ⟨gp, 0, none⟩), .int .i64 (rd_T114 n j).f2[i], .slice A2 best.length c2] W fun e w' => ∃ a, e = .returned (.pointer (some a)) ∧ Aside0 (Tree.Tree w' (fun k => W.heap.size ≤ k) Ts[i] a ∧ Below W.heap.size W w')) :=
    ⟨fun i hi hi' W hW => ih _ _ _ A1 A2 c0 c1 c2 gp W (hTi i hi hi') (Kd.C_below hC0 hW) hc0 (Kd.C_below hC1 hW) hc1 (Kd.C_below hC2 hW) hc2 (blk_below hgp hW)⟩
  have HNB : Aside0 ((rd_T114 n j).f2.length ≤ 1000000) := ⟨hs _ (by
    (unfold rd_T114); (rw [List.getD_eq_getElem?_getD, List.getElem?_eq_getElem (show j.toNat < n.length by omega)])
    exact List.getElem_mem _)⟩
  (clear hs); (have hj0 := eq_true hjr.1); (have hj1 := eq_true hjr.2); (have HTL := Aside0.mk hTl); (have HY : Aside0 (w.cell? ⟨gp, 0, none⟩ = some (Value.slice (some ad) n.length c0) ∧ w.cell? (ad.add (j.toNat * 3)) = some (Value.int .i64 (rd_T114 n j).f0) ∧ w.cell? ⟨(ad.add (j.toNat * 3)).block, (ad.add (j.toNat * 3)).off + 1, none⟩ = some (Value.int .i64 (rd_T114 n j).f1) ∧ w.cell? ⟨(ad.add (j.toNat * 3)).block, (ad.add (j.toNat * 3)).off + 2, none⟩ = some (Value.slice AK (rd_T114 n j).f2.length ck)) := ⟨y0, x0, x1, x2⟩); (clear ih hC0 hc0 hC1 hc1 hC2 hc2 hgp hj hjr hTs hTl hTi lk gk); (generalize hf0 : (rd_T114 n j).f0 = f0 at *); (generalize hf1 : (rd_T114 n j).f1 = f1 at *); (generalize hf2 : (rd_T114 n j).f2 = kl at *); (clear hf0 hf1 hf2); (obtain ⟨nk, hnk⟩ : ∃ nk, nk = kl.length := ⟨_, rfl⟩); (have HNK := Aside0.mk hnk); (rw [← hnk] at x2 HY HCK HNB); (clear hnk); (generalize n.length = nn0 at *); (generalize p.length = np at *); (generalize best.length = nb at *); (go_enter Try.func135, Try.ntmps135)
  go_upto_region 1 with (fail)
  go_cut [7] (fun v7 wc => ∃ gn, v7 = .pointer (some ⟨gn, 0, none⟩) ∧ Aside0 (wc.heap[gn]? = some (.cells #[.int .i64 f0, .int .i64 f1, .slice AK nk ck] 114 (0, 0))) ∧ Aside0 (Below w.heap.size w wc))
  case first =>
    (refine wp_region_held_drew (S := (fun w' => w'.cell? ⟨gp, 0, none⟩ = some (Value.slice (some ad) nn0 c0) ∧ w'.cell? (ad.add (j.toNat * 3)) = some (Value.int .i64 f0) ∧ w'.cell? ⟨(ad.add (j.toNat * 3)).block, (ad.add (j.toNat * 3)).off + 1, none⟩ = some (Value.int .i64 f1) ∧ w'.cell? ⟨(ad.add (j.toNat * 3)).block, (ad.add (j.toNat * 3)).off + 2, none⟩ = some (Value.slice AK nk ck))) (by kernel_rfl) ⟨y0, x0, x1, x2⟩ (fun hHeld => ?_)); (refine wpAnyH_take (i := 0) (oi := ⟨some 11, _, _, _, _, _⟩) (v := ?_) rfl (by kernel_rfl) (by kernel_rfl) (by kernel_rfl) (fun _ _ _ h => h) (Or.inl ⟨by rfl, ?_⟩) (by assumption) ?_)
    case refine_2 => (intro w hSw; (try dsimp only at hSw); first | (go_simp; done) | (go_simp; with_reducible rfl))
    (try simp only [Act.put, List.setIfInBounds_toArray, List.set_cons_zero, List.set_cons_succ]); (refine wpAnyH_take (i := 1) (oi := ⟨some 12, _, _, _, _, _⟩) (v := ?_) rfl (by kernel_rfl) (by kernel_rfl) (by kernel_rfl) (fun _ _ _ h => h) (Or.inl ⟨by rfl, ?_⟩) (by assumption) ?_)
    case refine_2 => (intro w hSw; (try dsimp only at hSw); first | (go_simp; done) | (go_simp; with_reducible rfl))
    (try simp only [Act.put, List.setIfInBounds_toArray, List.set_cons_zero, List.set_cons_succ]); (refine wpAnyH_take (i := 2) (oi := ⟨some 13, _, _, _, _, _⟩) (v := ?_) rfl (by kernel_rfl) (by kernel_rfl) (by kernel_rfl) (fun _ _ _ h => h) (Or.inl ⟨by rfl, ?_⟩) (by assumption) ?_)
    case refine_2 => (intro w hSw; (try dsimp only at hSw); first | (go_simp; done) | (go_simp; with_reducible rfl))
    (try simp only [Act.put, List.setIfInBounds_toArray, List.set_cons_zero, List.set_cons_succ]); (refine wpAnyH_take (i := 3) (oi := ⟨some 14, _, _, _, _, _⟩) (v := ?_) rfl (by kernel_rfl) (by kernel_rfl) (by kernel_rfl) (fun _ _ _ h => h) (Or.inl ⟨by rfl, ?_⟩) (by assumption) ?_)
    case refine_2 => (intro w hSw; (try dsimp only at hSw); first | (go_simp; done) | (go_simp; with_reducible rfl))
    (try simp only [Act.put, List.setIfInBounds_toArray, List.set_cons_zero, List.set_cons_succ]); (refine wpAnyH_take (i := 4) (oi := ⟨some 15, _, _, _, _, _⟩) (v := ?_) rfl (by kernel_rfl) (by kernel_rfl) (by kernel_rfl) (fun _ _ _ h => h) (Or.inl ⟨by rfl, ?_⟩) (by assumption) ?_)
    case refine_2 => (intro w hSw; (try dsimp only at hSw); first | (go_simp; done) | (go_simp; with_reducible rfl))
    (try simp only [Act.put, List.setIfInBounds_toArray, List.set_cons_zero, List.set_cons_succ]); (refine wpAnyH_take (i := 5) (oi := ⟨some 16, _, _, _, _, _⟩) (v := ?_) rfl (by kernel_rfl) (by kernel_rfl) (by kernel_rfl) (fun _ _ _ h => h) (Or.inl ⟨by rfl, ?_⟩) (by assumption) ?_)
    case refine_2 => (intro w hSw; (try dsimp only at hSw); first | (go_simp; done) | (go_simp; with_reducible rfl))
    (try simp only [Act.put, List.setIfInBounds_toArray, List.set_cons_zero, List.set_cons_succ]); (refine wpAnyH_take (i := 6) (oi := ⟨some 17, _, _, _, _, _⟩) (v := ?_) rfl (by kernel_rfl) (by kernel_rfl) (by kernel_rfl) (fun _ _ _ h => h) (Or.inl ⟨by rfl, ?_⟩) (by assumption) ?_)
    case refine_2 => (intro w hSw; (try dsimp only at hSw); first | (go_simp; done) | (go_simp; with_reducible rfl))
    (try simp only [Act.put, List.setIfInBounds_toArray, List.set_cons_zero, List.set_cons_succ]); (refine wpAnyH_ready (rs := [7, 10]) (by kernel_rfl) (by simp) (AllReadyH.cons (o := ⟨some 18, _, _, _, _, _⟩) rfl (fun K hK => ?_) (AllReadyH.cons (o := ⟨some 7, _, _, _, _, _⟩) rfl (fun K hK => ?_) AllReadyH.nil)))
    · go_simp
      (refine (HCH.out _ (Below.drew (Below.refl _ _))).mono ?_); (rintro e w5 ⟨rfl, Z5⟩); (try dsimp only); (go_wp2_with fail); (replace y0 := pw_cell_below Z5.out.2 y0); (replace x0 := pw_cell_below Z5.out.2 x0); (replace x1 := pw_cell_below Z5.out.2 x1); (replace x2 := pw_cell_below Z5.out.2 x2); (refine hK.out _ _ ⟨y0, x0, x1, x2⟩ (fun hHeld => ?_)); (clear hK K); (try simp only [Act.put, List.setIfInBounds_toArray, List.set_cons_zero, List.set_cons_succ]); (refine wpAnyH_take (i := 8) (oi := ⟨some 19, _, _, _, _, _⟩) (v := ?_) rfl (by kernel_rfl) (by kernel_rfl) (by kernel_rfl) (fun _ _ _ h => h) (Or.inl ⟨by rfl, ?_⟩) (by assumption) ?_)
      case refine_2 => (intro w hSw; (try dsimp only at hSw); first | (go_simp; done) | (go_simp; with_reducible rfl))
      (try simp only [Act.put, List.setIfInBounds_toArray, List.set_cons_zero, List.set_cons_succ]); (refine wpAnyH_take (i := 9) (oi := ⟨some 20, _, _, _, _, _⟩) (v := ?_) rfl (by kernel_rfl) (by kernel_rfl) (by kernel_rfl) (fun _ _ _ h => h) (Or.inl ⟨by rfl, ?_⟩) (by assumption) ?_)
      case refine_2 => (intro w hSw; (try dsimp only at hSw); first | (go_simp; done) | (go_simp; with_reducible rfl))
      (try simp only [Act.put, List.setIfInBounds_toArray, List.set_cons_zero, List.set_cons_succ]); (refine wpAnyH_ready (rs := [10]) (by kernel_rfl) (by simp) (AllReadyH.cons (o := ⟨some 7, _, _, _, _, _⟩) rfl (fun K hK => ?_) AllReadyH.nil)); (go_simp); (have BK : Aside0 ((w5.alloc (.cells #[.int .i64 0, .int .i64 0, .slice none 0 0] 114)).heap[w5.heap.size]? = some (.cells #[.int .i64 0, .int .i64 0, .slice none 0 0] 114 (0, 0))) := ⟨blk_new _ _⟩); (have BB : Aside0 (Below w5.heap.size w5 (w5.alloc (.cells #[.int .i64 0, .int .i64 0, .slice none 0 0] 114))) := ⟨below_alloc (Below.refl _ _) _⟩); (generalize (w5.alloc (.cells #[.int .i64 0, .int .i64 0, .slice none 0 0] 114)) = wa at BK BB ⊢); (obtain ⟨gn, hgn⟩ : ∃ gn, gn = w5.heap.size := ⟨_, rfl⟩); (rw [← hgn] at BK ⊢); (have GN : Aside0 (w5.heap.size ≤ gn) := ⟨Nat.le_of_eq hgn.symm⟩); (clear hgn); (have y0' := pw_cell_below BB.out y0); (have x0' := pw_cell_below BB.out x0); (have x1' := pw_cell_below BB.out x1); (have x2' := pw_cell_below BB.out x2); (refine hK.out _ _ ⟨y0', x0', x1', x2'⟩ (fun hHeld => ?_)); (clear hK K); (try simp only [Act.put, List.setIfInBounds_toArray, List.set_cons_zero, List.set_cons_succ]); (have GW : Aside0 (w.heap.size ≤ gn) := ⟨Nat.le_trans Z5.out.1.size GN.out⟩); (have z0 := (blk_cell BK.out 0).trans (show _ = some (Value.int .i64 0) from rfl)); (have z1 := (blk_cell BK.out 1).trans (show _ = some (Value.int .i64 0) from rfl)); (have z2 := (blk_cell BK.out 2).trans (show _ = some (Value.slice none 0 0) from rfl)); (have fz0 := blk_frozen BK.out 0); (have fz1 := blk_frozen BK.out 1); (have fz2 := blk_frozen BK.out 2); (refine wpAnyH_ready (rs := [11]) (by kernel_rfl) (by simp) (AllReadyH.cons (o := ⟨none, _, _, _, _, _⟩) rfl (fun K hK => ?_) AllReadyH.nil)); (go_simp); (have BKN := blk_set (blk_set (blk_set BK.out 0 (.int .i64 f0)) 1 (.int .i64 f1)) 2 (.slice AK nk ck)); (have BBN : Aside0 (Below w.heap.size w (((wa.setCell ⟨gn, 0, none⟩ (.int .i64 f0)).setCell ⟨gn, 1, none⟩ (.int .i64 f1)).setCell ⟨gn, 2, none⟩ (.slice AK nk ck))) := ⟨below_set (below_set (below_set (below_step Z5.out.1 BB.out) GW.out) GW.out) GW.out⟩); (replace y0 := pw_cell_below BBN.out HY.out.1); (replace x0 := pw_cell_below BBN.out HY.out.2.1); (replace x1 := pw_cell_below BBN.out HY.out.2.2.1); (replace x2 := pw_cell_below BBN.out HY.out.2.2.2); (refine hK.out _ _ ⟨y0, x0, x1, x2⟩ (fun hHeld => ?_)); (clear hK K); (try simp only [Act.put, List.setIfInBounds_toArray, List.set_cons_zero, List.set_cons_succ]); (refine wpAnyH_done (by kernel_rfl) ?_ _); (go_wp2_with fail)
      go_meet
      case rel => exact ⟨gn, rfl, ⟨BKN⟩, BBN⟩
    · go_simp
      (have BK : Aside0 ((w.alloc (.cells #[.int .i64 0, .int .i64 0, .slice none 0 0] 114)).drew.heap[w.heap.size]? = some (.cells #[.int .i64 0, .int .i64 0, .slice none 0 0] 114 (0, 0))) := ⟨blk_drew (blk_new _ _)⟩); (have BB : Aside0 (Below w.heap.size w (w.alloc (.cells #[.int .i64 0, .int .i64 0, .slice none 0 0] 114)).drew) := ⟨Below.drew (below_alloc (Below.refl _ _) _)⟩); (generalize (w.alloc (.cells #[.int .i64 0, .int .i64 0, .slice none 0 0] 114)).drew = wa at BK BB ⊢); (obtain ⟨gn, hgn⟩ : ∃ gn, gn = w.heap.size := ⟨_, rfl⟩); (rw [← hgn] at BK ⊢); (have GN : Aside0 (w.heap.size ≤ gn) := ⟨Nat.le_of_eq hgn.symm⟩); (clear hgn); (have y0' := pw_cell_below BB.out y0); (have x0' := pw_cell_below BB.out x0); (have x1' := pw_cell_below BB.out x1); (have x2' := pw_cell_below BB.out x2); (refine hK.out _ _ ⟨y0', x0', x1', x2'⟩ (fun hHeld => ?_)); (clear hK K); (try simp only [Act.put, List.setIfInBounds_toArray, List.set_cons_zero, List.set_cons_succ]); (have GW : Aside0 (w.heap.size ≤ gn) := ⟨GN.out⟩); (have BA : Aside0 (Below w.heap.size w wa) := ⟨BB.out⟩); (clear y0 x0 x1 x2); (have y0 := y0'); (have x0 := x0'); (have x1 := x1'); (have x2 := x2'); (refine wpAnyH_ready (rs := [7]) (by kernel_rfl) (by simp) (AllReadyH.cons (o := ⟨some 18, _, _, _, _, _⟩) rfl (fun K hK => ?_) AllReadyH.nil)); (go_simp); (refine (HCH.out _ (BA.out)).mono ?_); (rintro e w5 ⟨rfl, Z5⟩); (try dsimp only); (go_wp2_with fail); (replace y0 := pw_cell_below Z5.out.2 y0); (replace x0 := pw_cell_below Z5.out.2 x0); (replace x1 := pw_cell_below Z5.out.2 x1); (replace x2 := pw_cell_below Z5.out.2 x2); (refine hK.out _ _ ⟨y0, x0, x1, x2⟩ (fun hHeld => ?_)); (clear hK K); (try simp only [Act.put, List.setIfInBounds_toArray, List.set_cons_zero, List.set_cons_succ]); (refine wpAnyH_take (i := 8) (oi := ⟨some 19, _, _, _, _, _⟩) (v := ?_) rfl (by kernel_rfl) (by kernel_rfl) (by kernel_rfl) (fun _ _ _ h => h) (Or.inl ⟨by rfl, ?_⟩) (by assumption) ?_)
      case refine_2 => (intro w hSw; (try dsimp only at hSw); first | (go_simp; done) | (go_simp; with_reducible rfl))
      (try simp only [Act.put, List.setIfInBounds_toArray, List.set_cons_zero, List.set_cons_succ]); (refine wpAnyH_take (i := 9) (oi := ⟨some 20, _, _, _, _, _⟩) (v := ?_) rfl (by kernel_rfl) (by kernel_rfl) (by kernel_rfl) (fun _ _ _ h => h) (Or.inl ⟨by rfl, ?_⟩) (by assumption) ?_)
      case refine_2 => (intro w hSw; (try dsimp only at hSw); first | (go_simp; done) | (go_simp; with_reducible rfl))
      (try simp only [Act.put, List.setIfInBounds_toArray, List.set_cons_zero, List.set_cons_succ]); (replace BK := Aside0.mk (blk_below BK.out Z5.out.2)); (have z0 := (blk_cell BK.out 0).trans (show _ = some (Value.int .i64 0) from rfl)); (have z1 := (blk_cell BK.out 1).trans (show _ = some (Value.int .i64 0) from rfl)); (have z2 := (blk_cell BK.out 2).trans (show _ = some (Value.slice none 0 0) from rfl)); (have fz0 := blk_frozen BK.out 0); (have fz1 := blk_frozen BK.out 1); (have fz2 := blk_frozen BK.out 2); (refine wpAnyH_ready (rs := [11]) (by kernel_rfl) (by simp) (AllReadyH.cons (o := ⟨none, _, _, _, _, _⟩) rfl (fun K hK => ?_) AllReadyH.nil)); (go_simp); (have BKN := blk_set (blk_set (blk_set BK.out 0 (.int .i64 f0)) 1 (.int .i64 f1)) 2 (.slice AK nk ck)); (have BBN : Aside0 (Below w.heap.size w (((w5.setCell ⟨gn, 0, none⟩ (.int .i64 f0)).setCell ⟨gn, 1, none⟩ (.int .i64 f1)).setCell ⟨gn, 2, none⟩ (.slice AK nk ck))) := ⟨below_set (below_set (below_set (Z5.out.1) GW.out) GW.out) GW.out⟩); (replace y0 := pw_cell_below BBN.out HY.out.1); (replace x0 := pw_cell_below BBN.out HY.out.2.1); (replace x1 := pw_cell_below BBN.out HY.out.2.2.1); (replace x2 := pw_cell_below BBN.out HY.out.2.2.2); (refine hK.out _ _ ⟨y0, x0, x1, x2⟩ (fun hHeld => ?_)); (clear hK K); (try simp only [Act.put, List.setIfInBounds_toArray, List.set_cons_zero, List.set_cons_succ]); (refine wpAnyH_done (by kernel_rfl) ?_ _); (go_wp2_with fail)
      go_meet
      case rel => exact ⟨gn, rfl, ⟨BKN⟩, BBN⟩
  case rest =>
    (obtain ⟨gn, rfl, BN, BW⟩ := hcut); (clear y0 x0 x1 x2 HY HCH); (have n0 := (blk_cell BN.out 0).trans (show _ = some (Value.int .i64 f0) from rfl)); (have n1 := (blk_cell BN.out 1).trans (show _ = some (Value.int .i64 f1) from rfl)); (have n2 := (blk_cell BN.out 2).trans (show _ = some (Value.slice AK nk ck) from rfl)); (go_wp2_with (first | ((with_reducible refine gate_dst (N := 26) rfl ?_); refine box_event rfl (N := 26) rfl (cs := #[.int .i64 f0, .int .i64 f1, .slice none 0 0]) (t := 176) (by first | (go_simp; done) | (go_simp; rfl)) ?_; intro gt hgt w2 hbox hb; have B2 := Aside0.mk hb; have BT := Aside0.mk hbox; have GT := Aside0.mk (show wc.heap.size ≤ gt from Nat.le_of_eq hgt.symm); replace n0 := pw_cell_below hb n0; replace n1 := pw_cell_below hb n1; replace n2 := pw_cell_below hb n2; clear hgt hbox hb))); (have EX0 : Aside0 (Ex w w2 gt f0 f1 (.slice none 0 0) (Ts.take 0) []) := ⟨⟨BT.out, Kd.R_nil _ _ _ _ _, Tree.Trees.nil _, below_step BW.out B2.out, Nat.le_trans BW.out.size GT.out⟩⟩); (clear n0 n1 n2 BN BW B2 BT GT)
    go_loopg [30] nk (fun gg v30 wr => ∃ (i : Nat) (A : Option Addr) (c : Nat) (az : List Addr), v30 = .int .i64 (i : Int) ∧ Aside0 (i ≤ nk ∧ nk - i ≤ gg) ∧ Aside0 (Ex w wr gt f0 f1 (.slice A i c) (Ts.take i) az ∧ az.length = i))
    case atStart => exact ⟨0, none, 0, [], rfl, ⟨Nat.zero_le _, Nat.le_refl _⟩, ⟨EX0.out, rfl⟩⟩
    case round =>
      (clear EX0); (obtain ⟨i, A, cc, az, rfl, M1, E1⟩ := hrel); (by_cases cx : i < nk)
      · have cxt : ((i : Int) < (nk : Int)) = True := eq_true (by omega)
        (have cx0 : ((0 : Int) ≤ (i : Int)) = True := eq_true (by omega)); (have hik : i < kl.length := by rw [← HNK.out]; exact cx); (have hiT : i < Ts.length := by rw [HTL.out]; exact hik); (obtain ⟨ad', e1, hx⟩ := Kd.at_int (Kd.C_below HCK.out E1.out.1.hb) (i : Int) (by omega) (by omega)); (cases e1); (have hrd : rd kl (i : Int) = kl[i] := by unfold rd; rw [Int.toNat_natCast, List.getD_eq_getElem?_getD, List.getElem?_eq_getElem hik]; rfl); (rw [hrd, Int.toNat_natCast] at hx); (have hcall := HEX.out i hik hiT); (have htk : Ts.take (i + 1) = Ts.take i ++ [Ts[i]] := List.take_succ_eq_append_getElem hiT); (generalize kl[i] = x at hx hcall); (generalize Ts[i] = T at hcall htk); (have HCALL := Aside0.mk hcall); (have HTK := Aside0.mk htk); (have CX := Aside0.mk cx); (clear hcall htk cx hik hiT hrd)
        go_upto_region 6 with (fail)
        (have ED : Aside0 (Ex w wr.drew gt f0 f1 (.slice A i cc) (Ts.take i) az) := ⟨E1.out.1.below (Below.drew (Below.refl _ _))⟩); (have HAZ := Aside0.mk E1.out.2); (have q2 := (blk_cell ED.out.bt 2).trans (show _ = some (Value.slice A i cc) from rfl)); (clear hx E1); (refine region_held_till (S := (fun w' => w'.cell? ⟨gt, 2, none⟩ = some (Value.slice A i cc))) 13 (by kernel_rfl) q2 (fun hHeld => ?_)); (refine HeldTill.take (i := 0) (oi := ⟨some 34, _, _, _, _, _⟩) (v := ?_) rfl (by kernel_rfl) (by kernel_rfl) (by kernel_rfl) (by kernel_rfl) (fun _ _ _ h => h) (Or.inl ⟨by rfl, ?_⟩) (by assumption) ?_)
        case refine_2 => (intro w hSw; (try dsimp only at hSw); first | (go_simp; done) | (go_simp; with_reducible rfl))
        (try simp only [Act.put, List.setIfInBounds_toArray, List.set_cons_zero, List.set_cons_succ]); (refine HeldTill.take (i := 1) (oi := ⟨some 35, _, _, _, _, _⟩) (v := ?_) rfl (by kernel_rfl) (by kernel_rfl) (by kernel_rfl) (by kernel_rfl) (fun _ _ _ h => h) (Or.inl ⟨by rfl, ?_⟩) (by assumption) ?_)
        case refine_2 => (intro w hSw; (try dsimp only at hSw); first | (go_simp; done) | (go_simp; with_reducible rfl))
        (try simp only [Act.put, List.setIfInBounds_toArray, List.set_cons_zero, List.set_cons_succ]); (refine HeldTill.take (i := 2) (oi := ⟨some 36, _, _, _, _, _⟩) (v := ?_) rfl (by kernel_rfl) (by kernel_rfl) (by kernel_rfl) (by kernel_rfl) (fun _ _ _ h => h) (Or.inl ⟨by rfl, ?_⟩) (by assumption) ?_)
        case refine_2 => (intro w hSw; (try dsimp only at hSw); first | (go_simp; done) | (go_simp; with_reducible rfl))
        (try simp only [Act.put, List.setIfInBounds_toArray, List.set_cons_zero, List.set_cons_succ]); (refine HeldTill.take (i := 3) (oi := ⟨some 37, _, _, _, _, _⟩) (v := ?_) rfl (by kernel_rfl) (by kernel_rfl) (by kernel_rfl) (by kernel_rfl) (fun _ _ _ h => h) (Or.inl ⟨by rfl, ?_⟩) (by assumption) ?_)
        case refine_2 => (intro w hSw; (try dsimp only at hSw); first | (go_simp; done) | (go_simp; with_reducible rfl))
        (try simp only [Act.put, List.setIfInBounds_toArray, List.set_cons_zero, List.set_cons_succ]); (refine HeldTill.take (i := 4) (oi := ⟨some 38, _, _, _, _, _⟩) (v := ?_) rfl (by kernel_rfl) (by kernel_rfl) (by kernel_rfl) (by kernel_rfl) (fun _ _ _ h => h) (Or.inl ⟨by rfl, ?_⟩) (by assumption) ?_)
        case refine_2 => (intro w hSw; (try dsimp only at hSw); first | (go_simp; done) | (go_simp; with_reducible rfl))
        (try simp only [Act.put, List.setIfInBounds_toArray, List.set_cons_zero, List.set_cons_succ]); (refine HeldTill.take (i := 5) (oi := ⟨some 39, _, _, _, _, _⟩) (v := ?_) rfl (by kernel_rfl) (by kernel_rfl) (by kernel_rfl) (by kernel_rfl) (fun _ _ _ h => h) (Or.inl ⟨by rfl, ?_⟩) (by assumption) ?_)
        case refine_2 => (intro w hSw; (try dsimp only at hSw); first | (go_simp; done) | (go_simp; with_reducible rfl))
        (try simp only [Act.put, List.setIfInBounds_toArray, List.set_cons_zero, List.set_cons_succ]); (refine HeldTill.take (i := 6) (oi := ⟨some 40, _, _, _, _, _⟩) (v := ?_) rfl (by kernel_rfl) (by kernel_rfl) (by kernel_rfl) (by kernel_rfl) (fun _ _ _ h => h) (Or.inl ⟨by rfl, ?_⟩) (by assumption) ?_)
        case refine_2 => (intro w hSw; (try dsimp only at hSw); first | (go_simp; done) | (go_simp; with_reducible rfl))
        (try simp only [Act.put, List.setIfInBounds_toArray, List.set_cons_zero, List.set_cons_succ]); (refine HeldTill.take (i := 7) (oi := ⟨some 41, _, _, _, _, _⟩) (v := ?_) rfl (by kernel_rfl) (by kernel_rfl) (by kernel_rfl) (by kernel_rfl) (fun _ _ _ h => h) (Or.inl ⟨by rfl, ?_⟩) (by assumption) ?_)
        case refine_2 => (intro w hSw; (try dsimp only at hSw); first | (go_simp; done) | (go_simp; with_reducible rfl))
        (try simp only [Act.put, List.setIfInBounds_toArray, List.set_cons_zero, List.set_cons_succ]); (refine HeldTill.step (i := 8) (o := ⟨some 42, _, _, _, _, _⟩) (by kernel_rfl) rfl (fun K hK => ?_)); (go_simp); (refine (HCALL.out _ ED.out.hb).mono ?_); (rintro e w5 ⟨a5, rfl, Z5⟩); (try dsimp only); (go_wp2_with fail); (replace q2 := pw_cell_below Z5.out.2 q2); (refine hK.out _ _ q2 (fun hHeld => ?_)); (clear hK K); (try simp only [Act.put, List.setIfInBounds_toArray, List.set_cons_zero, List.set_cons_succ]); (refine HeldTill.step (i := 9) (o := ⟨some 43, _, _, _, _, _⟩) (by kernel_rfl) rfl (fun K hK => ?_)); (go_simp); (refine hK.out _ _ (pw_cell_below (below_alloc (Below.refl _ _) _) q2) (fun hHeld => ?_)); (clear hK K); (try simp only [Act.put, List.setIfInBounds_toArray, List.set_cons_zero, List.set_cons_succ]); (refine HeldTill.step (i := 10) (o := ⟨some 44, _, _, _, _, _⟩) (by kernel_rfl) rfl (fun K hK => ?_)); (have E5 := Aside0.mk (ED.out.below Z5.out.2)); (refine Kd.R_append_step Tree.ptrK (w0 := w) (W := w5) w.heap.size (by rfl) (.tmp 38) (.tmp 43) 174 99 (.pointer none) 8 rfl Try.underlying174 infoPtr' rfl (by decide) (by omega) (.slice A i cc) az a5 [.pointer (some a5)] (fun k => k ≠ gt) (fun _ => False) rfl rfl ?aP (fun _ hk => hk.elim) ?aF E5.out.r E5.out.hb E5.out.hb.size ?aL ?_)
        case aP => exact rfl
        case aF => exact fun k hk => by have := blk_lt E5.out.bt; omega
        case aL => have h1 := HAZ.out; have h2 := HCK.out.2.1; have h3 := CX.out; have h4 := HNB.out; omega
        (intro v10 w10 ho hb10 hg10 hat10); (obtain ⟨A10, c10, e10⟩ := Kd.R_slice ho); (rw [List.length_append, HAZ.out, List.length_singleton] at e10); (subst e10); (have AP := ED.out.push Z5.out.1 Z5.out.2 ho hg10 hat10 hb10); (replace q2 := (blk_cell AP.1 2).trans (show _ = some (Value.slice A i cc) from rfl)); (have fz := blk_frozen AP.1 2); (have E10 := Aside0.mk AP.2); (clear ho hb10 hg10 hat10 AP); (refine hK.out _ _ q2 (fun hHeld => ?_)); (clear hK K); (try simp only [Act.put, List.setIfInBounds_toArray, List.set_cons_zero, List.set_cons_succ]); (refine HeldTill.only (i := 11) (oi := ⟨some 45, _, _, _, _, _⟩) (v := ?_) rfl (by kernel_rfl) (Or.inl ⟨by rfl, ?_⟩) (by assumption) ?_)
        case refine_2 => (intro w hSw; (try dsimp only at hSw); first | (go_simp; done) | (go_simp; with_reducible rfl))
        (try simp only [Act.put, List.setIfInBounds_toArray, List.set_cons_zero, List.set_cons_succ]); (refine HeldTill.take (i := 12) (oi := ⟨some 46, _, _, _, _, _⟩) (v := ?_) rfl (by kernel_rfl) (by kernel_rfl) (by kernel_rfl) (by kernel_rfl) (fun _ _ _ h => h) (Or.inl ⟨by rfl, ?_⟩) (by assumption) ?_)
        case refine_2 => (intro w hSw; (try dsimp only at hSw); first | (go_simp; done) | (go_simp; with_reducible rfl))
        (try simp only [Act.put, List.setIfInBounds_toArray, List.set_cons_zero, List.set_cons_succ]); (refine HeldTill.last (o := ⟨none, _, _, _, _, _⟩) (by kernel_rfl) rfl (by kernel_rfl) (fun K hK => ?_)); (go_simp); (generalize w10.setCell ⟨gt, 2, none⟩ (.slice A10 (i + 1) c10) = w11 at E10 ⊢); (refine hK.out _ _ ?_); (clear hK K); (try simp only [Act.put, List.setIfInBounds_toArray, List.set_cons_zero, List.set_cons_succ]); (go_wp2); (go_roundg (nk - (i + 1)))
        case measure => have := CX.out; have := M1.out; omega
        case rel =>
          (refine ⟨i + 1, A10, c10, az ++ [a5], ?_, ⟨by have := CX.out; omega, Nat.le_refl _⟩, ⟨?_, by rw [List.length_append, HAZ.out]; rfl⟩⟩); (focus ((congr 1; have := CX.out; have := HNB.out; unfold wrap64; omega))); (focus ((rw [HTK.out]; exact E10.out)))
      (focus ((have hi : i = nk := by have := M1.out; omega); (subst hi); (have cxt : ((i : Int) < (i : Int)) = False := eq_false (by omega)); (have ET : Aside0 (Ex w wr gt f0 f1 (.slice A i cc) Ts az) := ⟨by have := E1.out.1; rwa [HNK.out, ← HTL.out, List.take_length, HTL.out, ← HNK.out] at this⟩); (clear cx M1 E1); (go_wp2); (go_ret); (exact ⟨_, rfl, ⟨ET.out.done, ET.out.hb⟩⟩)))
theorem extract.calls (k : Nat) (n : List S114) (p best : List Int) (hs : ∀ x ∈ n, x.f2.length ≤ 1000000) (d : Nat) : ExtSays k n p best d := by
  induction d with
  | zero => intro c T A0 A1 A2 c0 c1 c2 gp w h; exact absurd h (by simp [exT])
  | succ d ih => exact extract_step k n p best hs ih

/-! ### (*impl.tree).size: function 169, by hand -/
set_option maxHeartbeats 8000000 in
set_option maxRecDepth 100000 in
theorem tree_size.calls (d : Nat) : ∀ (T : Tree.Tr) (a : Addr) (ok : Nat → Prop) (w : World), Tree.TreeAt w ok d T a → T.flat.length ≤ 1000000 →
    Calls Try.prog 169 #[.pointer (some a)] w fun e w' => e = .returned (.int .i64 (T.flat.length : Int)) ∧ Drawn0 w w' := by
  induction d with
  | zero => intro T a ok w h; exact h.elim
  | succ d ih =>
    (intro T a ok w h hs); (obtain ⟨g, A, c, az, rfl, h1, h2, h3, h4, h5, h6, h7, -⟩ := h); (have HI := Aside0.mk ih); (have H6 := Aside0.mk h6); (have H7 := Aside0.mk h7); (have HS := Aside0.mk hs); (have HF : Aside0 (T.flat.length = (Tree.flats T.kids).length + 1) := ⟨by rw [Tree.flat_eq]; simp⟩); (have HL := Aside0.mk h4); (clear ih h6 h7 hs h1 h2 h4 h5); (go_enter Try.func169, Try.ntmps169); (go_wp2)
    go_loopg [3, 11] T.kids.length (fun gg v3 v11 wr => ∃ i : Nat, v11 = .int .i64 (i : Int) ∧ v3 = .int .i64 (((Tree.flats (T.kids.take i)).length + 1 : Nat) : Int) ∧ Aside0 (i ≤ T.kids.length ∧ T.kids.length - i ≤ gg) ∧ Drawn0 w wr)
    case atStart => exact ⟨0, rfl, rfl, ⟨Nat.zero_le _, Nat.le_refl _⟩, by repeat (first | exact Drawn0.refl _ | apply Drawn0.step)⟩
    case round =>
      (obtain ⟨i, rfl, rfl, A1, ⟨q, rfl⟩⟩ := hrel); (by_cases c2 : i < T.kids.length)
      · obtain ⟨ad, e1, hcell⟩ := Tree.ptr_at H6.out i c2
        (cases e1); (have hsub := HI.out T.kids[i] (az.getD i Tree.nowhere) ok (w.drewN q) ((H7.out i c2).below (pw_below_drewN (Below.refl _ _) q)) (by have := HS.out; have := HF.out; have := Tree.flats_len_mem (List.getElem_mem c2); omega)); (have hk : T.kids[i]? = some T.kids[i] := List.getElem?_eq_getElem c2); (generalize T.kids[i] = K at hsub hk); (have HK := Aside0.mk hk); (have c2t : ((i : Int) < (T.kids.length : Int)) = True := eq_true (by omega)); (have C2 := Aside0.mk c2); (clear c2 hk); (go_wp2_with (go_at_call 169; refine hsub.mono ?_; rintro e w' ⟨rfl, ⟨q', rfl⟩⟩)); (go_roundg (T.kids.length - (i + 1)))
        case measure => have := A1.out; have := C2.out; omega
        case rel =>
          (have hf := Tree.flats_take_succ T.kids i HK.out); (have hb := Tree.flats_take_le T.kids (i + 1)); (have hl := HS.out); (have hl2 := HF.out); (have hi := A1.out); (have hg := Tree.flats_ge T.kids); (refine ⟨i + 1, ?_, ?_, ⟨by have := C2.out; omega, Nat.le_refl _⟩, by repeat (first | exact Drawn0.refl _ | apply Drawn0.step)⟩)
          (focus ((congr 1; unfold wrap64; omega))); (focus ((congr 1; unfold wrap64; omega)))
      (focus ((have c2t : ((i : Int) < (T.kids.length : Int)) = False := eq_false (by omega)); (have hi : i = T.kids.length := by have := A1.out; omega); (clear c2); (go_wp2); (go_ret); (refine ⟨?_, by repeat (first | exact Drawn0.refl _ | apply Drawn0.step)⟩); (rw [HF.out, hi, List.take_length]); (rfl)))

/-! ### (*impl.tree).nodes: function 170, by hand -/
/-- Pairs as nodes. -/
def ofP (l : List (Int × Int)) : List S96 := l.map fun x => ⟨x.1, x.2⟩
theorem ofP_append (a b : List (Int × Int)) : ofP (a ++ b) = ofP a ++ ofP b := List.map_append
theorem ofP_len (a : List (Int × Int)) : (ofP a).length = a.length := List.length_map _
theorem grown_chain {w w1 w2 : World} {o o1 : Option Nat} (h : w.grownBy w1 o) (hat : o1 = o ∨ ∃ b, o1 = some b ∧ w.heap.size ≤ b) (k : w1.grownBy w2 o1) : w.grownBy w2 o :=
  ⟨k.os.trans h.os, k.tape.trans h.tape, k.output.trans h.output, Nat.le_trans h.size k.size, fun j hj hne => (k.block j (Nat.lt_of_lt_of_le hj h.size) (by
    rcases hat with e | ⟨b, e, hb⟩
    (focus ((rw [e]; exact hne)))
    · rw [e]; intro he; injection he with he; omega)).trans (h.block j hj hne)⟩
theorem at_chain {w w1 : World} {o o1 o2 : Option Nat} (hs : w.heap.size ≤ w1.heap.size) (h : o1 = o ∨ ∃ b, o1 = some b ∧ w.heap.size ≤ b) (k : o2 = o1 ∨ ∃ b, o2 = some b ∧ w1.heap.size ≤ b) : o2 = o ∨ ∃ b, o2 = some b ∧ w.heap.size ≤ b := by
  rcases k with e | ⟨b, e, hb⟩
  (focus ((rw [e]; exact h))); (focus ((exact .inr ⟨b, e, Nat.le_trans hs hb⟩)))
/-- What holds of a row of nodes that grows out of v. -/
structure NodesAt (w0 w W : World) (b0 : Nat) (v v' : Value) (xs : List S96) : Prop where
  r : Kd.R k96 96 W b0 (fun _ => True) v' xs
  g : w.grownBy W v.ownBlock
  own : v'.ownBlock = v.ownBlock ∨ ∃ b, v'.ownBlock = some b ∧ w.heap.size ≤ b
  hb : Below b0 w0 W
theorem NodesAt.next {w0 w W W' : World} {b0 : Nat} {v v1 v2 : Value} {xs ys : List S96} (h : NodesAt w0 w W b0 v v1 xs) (k : NodesAt w0 W W' b0 v1 v2 ys) : NodesAt w0 w W' b0 v v2 ys :=
  ⟨k.r, grown_chain h.g h.own k.g, at_chain h.g.size h.own k.own, k.hb⟩
theorem grown_refl' (w : World) (row : Option Nat) : w.grownBy w row := ⟨rfl, rfl, rfl, Nat.le_refl _, fun _ _ _ => rfl⟩
theorem grown_draws {w W : World} {row : Option Nat} (h : w.grownBy W row) (n : Nat) : w.grownBy (W.drewN n) row := ⟨h.os, h.tape, h.output, h.size, h.block⟩
theorem NodesAt.draws {w0 w W : World} {b0 : Nat} {v v1 : Value} {xs : List S96} (h : NodesAt w0 w W b0 v v1 xs) (n : Nat) : NodesAt w0 w (W.drewN n) b0 v v1 xs :=
  ⟨Kd.R_drewN h.r n, grown_draws h.g n, h.own, pw_below_drewN h.hb n⟩
def NodesSays (d : Nat) : Prop := ∀ (T : Tree.Tr) (a : Addr) (ok : Nat → Prop) (v : Value) (b0 : Nat) (xs : List S96) (w0 w : World), Tree.TreeAt w ok d T a → (∀ k, ok k → some k ≠ v.ownBlock) → Below b0 w0 w → b0 ≤ w.heap.size → Kd.R k96 96 w b0 (fun _ => True) v xs → xs.length + T.flat.length ≤ 1000000 →
    Calls Try.prog 170 #[.pointer (some a), v] w fun e w' => ∃ v', e = .returned v' ∧ Aside0 (NodesAt w0 w w' b0 v v' (xs ++ ofP T.flat))
set_option maxHeartbeats 8000000 in
set_option maxRecDepth 100000 in
theorem nodes_step {d : Nat} (ih : NodesSays d) : NodesSays (d + 1) := by
  (intro T a ok v b0 xs w0 w hT hv hb hbs hR hlen); (obtain ⟨g, A, c, az, rfl, h1, h2, h3, h5, h6, h7, h8, hog, hoA⟩ := hT); (have hflat := Tree.flat_eq T); (have HLEN := Aside0.mk hlen); (have HFL := Aside0.mk hflat)
  have HSUB : Aside0 (∀ i (hi : i < T.kids.length) (W : World) (v1 : Value), NodesAt w0 w W b0 v v1 (xs ++ ofP (Tree.flats (T.kids.take i))) → Calls Try.prog 170 #[.pointer (some (az.getD i Tree.nowhere)), v1] W fun e w' => ∃ v', e = .returned v' ∧ Aside0 (NodesAt w0 w w' b0 v v' (xs ++ ofP (Tree.flats (T.kids.take (i + 1)))))) := by
    (refine ⟨fun i hi W v1 hN => ?_⟩); (have ht := Tree.TreeAt.move (w' := W) (fun k (hk : ok k ∧ k < w.heap.size) => hN.g.block k hk.2 (hv k hk.1)) _ _ _ (Tree.TreeAt.bound _ _ _ (h8 i hi)))
    have hsp : Tree.flats (T.kids.take (i + 1)) = Tree.flats (T.kids.take i) ++ (T.kids[i]).flat := by
      (rw [List.take_succ_eq_append_getElem hi, Tree.flats_append]); (congr 1); (show (T.kids[i]).flat ++ [] = _); (rw [List.append_nil])
    (have hle := Tree.flats_take_le T.kids (i + 1)); (refine (ih T.kids[i] (az.getD i Tree.nowhere) (fun k => ok k ∧ k < w.heap.size) v1 b0 _ w0 W ht (fun k hk => ?_) hN.hb (Nat.le_trans hbs hN.g.size) hN.r ?_).mono ?_)
    · rcases hN.own with e | ⟨b, e, hb'⟩
      (focus ((rw [e]; exact hv k hk.1))); (focus ((rw [e]; intro he; injection he with he; have := hk.2; omega)))
    (focus ((rw [hflat] at hlen); (rw [hsp, List.length_append] at hle); (rw [List.length_append, ofP_len]); (simp only [List.length_append, List.length_cons, List.length_nil] at hlen); (omega))); (focus ((rintro e w' ⟨v', rfl, hk⟩); (refine ⟨v', rfl, ⟨?_⟩⟩); (rw [hsp, ofP_append, ← List.append_assoc]); (exact hN.next hk.out)))
  have HX : Aside0 (∀ W v1 ys, NodesAt w0 w W b0 v v1 ys → W.cell? ⟨g, 0, none⟩ = some (.int .i64 T.op) ∧ W.cell? ⟨g, 1, none⟩ = some (.int .i64 T.n) ∧ ∀ i (hi : i < T.kids.length), ∃ ad, A = some ad ∧ W.cell? (ad.add i) = some (.pointer (some (az.getD i Tree.nowhere)))) := by
    (refine ⟨fun W v1 ys hN => ⟨hN.g.cell h1 (hv g hog), hN.g.cell h2 (hv g hog), fun i hi => ?_⟩⟩); (obtain ⟨ad, e, hx⟩ := Tree.ptr_at h7 i hi); (refine ⟨ad, e, hN.g.cell hx ?_⟩); (rw [Tree.add_block]); (exact hv _ (hoA (by omega) ad e))
  (have HN0 : Aside0 (NodesAt w0 w w b0 v v (xs ++ ofP (Tree.flats (T.kids.take 0)))) := ⟨⟨by simpa [Tree.flats, ofP] using hR, grown_refl' _ _, .inl rfl, hb⟩⟩); (have HBS := Aside0.mk hbs); (have HKL : Aside0 (T.kids.length ≤ 1000000) := ⟨by have := Tree.flats_ge T.kids; rw [hflat] at hlen; simp only [List.length_append, List.length_cons, List.length_nil] at hlen; omega⟩); (clear ih hflat hlen h5 h6 h7 h8 hog hoA hv hb hR hbs h1 h2); (go_enter Try.func170, Try.ntmps170); (go_wp2)
  go_loopg [1, 12] T.kids.length (fun gg v1 v12 wr => ∃ (i : Nat) (u : Value), v12 = .int .i64 (i : Int) ∧ u = v1 ∧ Aside0 (i ≤ T.kids.length ∧ T.kids.length - i ≤ gg) ∧ Aside0 (NodesAt w0 w wr b0 v v1 (xs ++ ofP (Tree.flats (T.kids.take i)))))
  case atStart => exact ⟨0, v, rfl, rfl, ⟨Nat.zero_le _, Nat.le_refl _⟩, HN0⟩
  case round =>
    (obtain ⟨i, u, rfl, rfl, A1, N1⟩ := hrel); (by_cases c2 : i < T.kids.length)
    · obtain ⟨ad, e1, hcell⟩ := (HX.out _ _ _ N1.out).2.2 i c2
      (cases e1); (have hsub := HSUB.out i c2 _ _ N1.out); (generalize az.getD i Tree.nowhere = ai at hcell hsub); (have c2t : ((i : Int) < (T.kids.length : Int)) = True := eq_true (by omega)); (have C2 := Aside0.mk c2); (clear c2); (go_wp2_with (go_at_call 170; refine hsub.mono ?_; rintro e w' ⟨v', rfl, N2⟩)); (go_roundg (T.kids.length - (i + 1)))
      case measure => have := A1.out; have := C2.out; omega
      case rel =>
        (refine ⟨i + 1, _, ?_, rfl, ⟨by have := C2.out; omega, Nat.le_refl _⟩, N2⟩); (congr 1; have := HKL.out; have := C2.out; unfold wrap64; omega)
    · have c2t : ((i : Int) < (T.kids.length : Int)) = False := eq_false (by omega)
      have hi : i = T.kids.length := by have := A1.out; omega
      have N2 : Aside0 (NodesAt w0 w wr b0 v u (xs ++ ofP (Tree.flats T.kids))) := by
        (have := N1.out); (rw [hi, List.take_length] at this); (exact ⟨this⟩)
      (obtain ⟨x0, x1, -⟩ := HX.out _ _ _ N2.out); (obtain ⟨ys, hys⟩ : ∃ ys, ys = xs ++ ofP (Tree.flats T.kids) := ⟨_, rfl⟩); (rw [← hys] at N2); (have HYS := Aside0.mk hys)
      have HYL : Aside0 ((ys.length + 1) * 16 ≤ 140737488355328) := ⟨by
        (have := HLEN.out); (rw [HFL.out] at this); (rw [hys, List.length_append, ofP_len]); (simp only [List.length_append, List.length_cons, List.length_nil] at this)
        omega⟩
      (have HRES : Aside0 (ys ++ [(⟨T.op, T.n⟩ : S96)] = xs ++ ofP T.flat) := ⟨by rw [HFL.out, hys, ofP_append, ← List.append_assoc]; rfl⟩); (have XX : Aside0 ((∀ W v1 ys, NodesAt w0 w W b0 v v1 ys → W.cell? ⟨g, 0, none⟩ = some (.int .i64 T.op)) ∧ ∀ W v1 ys, NodesAt w0 w W b0 v v1 ys → W.cell? ⟨g, 1, none⟩ = some (.int .i64 T.n)) := ⟨⟨fun W v1 ys h => (HX.out W v1 ys h).1, fun W v1 ys h => (HX.out W v1 ys h).2.1⟩⟩); (clear c2 hi N1 A1 hys HSUB HX HN0 HLEN HFL HKL); (generalize T.kids.length = nk at *); (obtain ⟨op, hop⟩ : ∃ op, op = T.op := ⟨_, rfl⟩); (obtain ⟨nn, hnn⟩ : ∃ nn, nn = T.n := ⟨_, rfl⟩); (rw [← hop] at x0 HRES XX); (rw [← hnn] at x1 HRES XX); (clear hop hnn)
      go_upto_region 6 with (fail)
      (have ND : Aside0 (NodesAt w0 w wr.drew b0 v u ys) := ⟨N2.out.draws 1⟩); (refine wp_region_held_drew (S := (fun w' => w'.cell? ⟨g, 0, none⟩ = some (Value.int .i64 op) ∧ w'.cell? ⟨g, 1, none⟩ = some (Value.int .i64 nn))) (by kernel_rfl) ⟨x0, x1⟩ (fun hHeld => ?_)); (refine wpAnyH_take (i := 0) (oi := ⟨some 20, _, _, _, _, _⟩) (v := ?_) rfl (by kernel_rfl) (by kernel_rfl) (by kernel_rfl) (fun _ _ _ h => h) (Or.inl ⟨by rfl, ?_⟩) (by assumption) ?_)
      case refine_2 => (intro w hSw; (try dsimp only at hSw); first | (go_simp; done) | (go_simp; with_reducible rfl))
      (try simp only [Act.put, List.setIfInBounds_toArray, List.set_cons_zero, List.set_cons_succ]); (refine wpAnyH_take (i := 1) (oi := ⟨some 21, _, _, _, _, _⟩) (v := ?_) rfl (by kernel_rfl) (by kernel_rfl) (by kernel_rfl) (fun _ _ _ h => h) (Or.inl ⟨by rfl, ?_⟩) (by assumption) ?_)
      case refine_2 => (intro w hSw; (try dsimp only at hSw); first | (go_simp; done) | (go_simp; with_reducible rfl))
      (try simp only [Act.put, List.setIfInBounds_toArray, List.set_cons_zero, List.set_cons_succ]); (refine wpAnyH_take (i := 2) (oi := ⟨some 22, _, _, _, _, _⟩) (v := ?_) rfl (by kernel_rfl) (by kernel_rfl) (by kernel_rfl) (fun _ _ _ h => h) (Or.inl ⟨by rfl, ?_⟩) (by assumption) ?_)
      case refine_2 => (intro w hSw; (try dsimp only at hSw); first | (go_simp; done) | (go_simp; with_reducible rfl))
      (try simp only [Act.put, List.setIfInBounds_toArray, List.set_cons_zero, List.set_cons_succ]); (refine wpAnyH_take (i := 3) (oi := ⟨some 23, _, _, _, _, _⟩) (v := ?_) rfl (by kernel_rfl) (by kernel_rfl) (by kernel_rfl) (fun _ _ _ h => h) (Or.inl ⟨by rfl, ?_⟩) (by assumption) ?_)
      case refine_2 => (intro w hSw; (try dsimp only at hSw); first | (go_simp; done) | (go_simp; with_reducible rfl))
      (try simp only [Act.put, List.setIfInBounds_toArray, List.set_cons_zero, List.set_cons_succ]); (refine wpAnyH_take (i := 4) (oi := ⟨some 24, _, _, _, _, _⟩) (v := ?_) rfl (by kernel_rfl) (by kernel_rfl) (by kernel_rfl) (fun _ _ _ h => h) (Or.inl ⟨by rfl, ?_⟩) (by assumption) ?_)
      case refine_2 => (intro w hSw; (try dsimp only at hSw); first | (go_simp; done) | (go_simp; with_reducible rfl))
      (try simp only [Act.put, List.setIfInBounds_toArray, List.set_cons_zero, List.set_cons_succ]); (refine wpAnyH_take (i := 5) (oi := ⟨some 25, _, _, _, _, _⟩) (v := ?_) rfl (by kernel_rfl) (by kernel_rfl) (by kernel_rfl) (fun _ _ _ h => h) (Or.inl ⟨by rfl, ?_⟩) (by assumption) ?_)
      case refine_2 => (intro w hSw; (try dsimp only at hSw); first | (go_simp; done) | (go_simp; with_reducible rfl))
      (try simp only [Act.put, List.setIfInBounds_toArray, List.set_cons_zero, List.set_cons_succ]); (refine wpAnyH_take (i := 6) (oi := ⟨some 26, _, _, _, _, _⟩) (v := ?_) rfl (by kernel_rfl) (by kernel_rfl) (by kernel_rfl) (fun _ _ _ h => h) (Or.inl ⟨by rfl, ?_⟩) (by assumption) ?_)
      case refine_2 => (intro w hSw; (try dsimp only at hSw); first | (go_simp; done) | (go_simp; with_reducible rfl))
      (try simp only [Act.put, List.setIfInBounds_toArray, List.set_cons_zero, List.set_cons_succ]); (refine wpAnyH_take (i := 7) (oi := ⟨some 27, _, _, _, _, _⟩) (v := ?_) rfl (by kernel_rfl) (by kernel_rfl) (by kernel_rfl) (fun _ _ _ h => h) (Or.inl ⟨by rfl, ?_⟩) (by assumption) ?_)
      case refine_2 => (intro w hSw; (try dsimp only at hSw); first | (go_simp; done) | (go_simp; with_reducible rfl))
      (try simp only [Act.put, List.setIfInBounds_toArray, List.set_cons_zero, List.set_cons_succ]); (refine wpAnyH_take (i := 8) (oi := ⟨some 28, _, _, _, _, _⟩) (v := ?_) rfl (by kernel_rfl) (by kernel_rfl) (by kernel_rfl) (fun _ _ _ h => h) (Or.inl ⟨by rfl, ?_⟩) (by assumption) ?_)
      case refine_2 => (intro w hSw; (try dsimp only at hSw); first | (go_simp; done) | (go_simp; with_reducible rfl))
      (try simp only [Act.put, List.setIfInBounds_toArray, List.set_cons_zero, List.set_cons_succ]); (refine wpAnyH_take (i := 9) (oi := ⟨some 29, _, _, _, _, _⟩) (v := ?_) rfl (by kernel_rfl) (by kernel_rfl) (by kernel_rfl) (fun _ _ _ h => h) (Or.inl ⟨by rfl, ?_⟩) (by assumption) ?_)
      case refine_2 => (intro w hSw; (try dsimp only at hSw); first | (go_simp; done) | (go_simp; with_reducible rfl))
      (try simp only [Act.put, List.setIfInBounds_toArray, List.set_cons_zero, List.set_cons_succ]); (refine wpAnyH_ready (rs := [10]) (by kernel_rfl) (by simp) (AllReadyH.cons (o := ⟨some 30, _, _, _, _, _⟩) rfl (fun K hK => ?_) AllReadyH.nil)); (go_simp); (replace x0 := pw_cell_below (below_alloc (Below.refl wr.drew.heap.size wr.drew) (.cells #[.int .i64 op, .int .i64 nn] 96)) x0); (replace x1 := pw_cell_below (below_alloc (Below.refl wr.drew.heap.size wr.drew) (.cells #[.int .i64 op, .int .i64 nn] 96)) x1); (refine hK.out _ _ ⟨x0, x1⟩ (fun hHeld => ?_)); (clear hK K); (try simp only [Act.put, List.setIfInBounds_toArray, List.set_cons_zero, List.set_cons_succ]); (refine wpAnyH_ready (rs := [11]) (by kernel_rfl) (by simp) (AllReadyH.cons (o := ⟨some 31, _, _, _, _, _⟩) rfl (fun K hK => ?_) AllReadyH.nil)); (refine Kd.R_append_step k96 (w0 := w0) (W := wr.drew) b0 (by rfl) (.tmp 20) (.tmp 30) 36 96 (.agg #[.int .i64 0, .int .i64 0]) 16 rfl Try.underlying36 info96 rfl (by decide) (by omega) u ys (⟨op, nn⟩ : S96) [.int .i64 op, .int .i64 nn] (fun _ => True) (fun _ => False) rfl rfl ?aP (fun _ hk => hk.elim) ?aF ND.out.r ND.out.hb ?aS HYL.out ?_)
      case aP => exact k96_mkM _ _ _ (⟨op, nn⟩ : S96)
      case aF => exact fun _ _ => trivial
      case aS => exact Nat.le_trans HBS.out ND.out.g.size
      (intro v10 w10 ho hb10 hg10 hat10); (have N3 : Aside0 (NodesAt w0 w w10 b0 v v10 (xs ++ ofP T.flat)) := ⟨by rw [← HRES.out]; exact ND.out.next ⟨ho, hg10, hat10, hb10⟩⟩); (replace x0 : w10.cell? ⟨g, 0, none⟩ = some (Value.int .i64 op) := XX.out.1 _ _ _ N3.out); (replace x1 : w10.cell? ⟨g, 1, none⟩ = some (Value.int .i64 nn) := XX.out.2 _ _ _ N3.out); (refine hK.out _ _ ⟨x0, x1⟩ (fun hHeld => ?_)); (clear hK K); (try simp only [Act.put, List.setIfInBounds_toArray, List.set_cons_zero, List.set_cons_succ]); (refine wpAnyH_take (i := 12) (oi := ⟨some 4, _, _, _, _, _⟩) (v := ?_) rfl (by kernel_rfl) (by kernel_rfl) (by kernel_rfl) (fun _ _ _ h => h) (Or.inl ⟨by rfl, ?_⟩) (by assumption) ?_)
      case refine_2 => (intro w hSw; (try dsimp only at hSw); first | (go_simp; done) | (go_simp; with_reducible rfl))
      (try simp only [Act.put, List.setIfInBounds_toArray, List.set_cons_zero, List.set_cons_succ]); (refine wpAnyH_done (by kernel_rfl) ?_ _); (go_wp2); (go_ret); (exact ⟨_, rfl, ⟨N3.out⟩⟩)

/-! ### (*impl.tree).term: function 136, by hand -/
theorem nodes.calls (d : Nat) : NodesSays d := by
  induction d with
  | zero => intro T a ok v b0 xs w0 w hT; exact hT.elim
  | succ d ih => exact nodes_step ih
set_option maxHeartbeats 4000000 in
set_option maxRecDepth 100000 in
theorem tree_term (T : Tree.Tr) (a : Addr) (ok : Nat → Prop) (w : World) (h : Tree.Tree w ok T a) (hs : T.flat.length ≤ 1000000) :
    Calls Try.prog 136 #[.pointer (some a)] w fun e w' => ∃ v, e = .returned (.tuple #[v, .bool (decide (T.flat.length ≤ 40))]) ∧ Aside0 (Kd.R k96 96 w' w.heap.size (fun _ => True) v (if T.flat.length ≤ 40 then ofP T.flat else []) ∧ Below w.heap.size w w') := by
  (obtain ⟨d, hd⟩ := h); (have HSZ : Aside0 (Calls Try.prog 169 #[.pointer (some a)] w fun e w' => e = .returned (.int .i64 (T.flat.length : Int)) ∧ Drawn0 w w') := ⟨tree_size.calls d T a ok w hd hs⟩)
  have HNO : Aside0 (∀ q, Calls Try.prog 170 #[.pointer (some a), .slice none 0 0] (w.drewN q) fun e w' => ∃ v', e = .returned v' ∧ Aside0 (NodesAt w (w.drewN q) w' w.heap.size (.slice none 0 0) v' (ofP T.flat))) :=
    ⟨fun q => nodes.calls d T a ok (.slice none 0 0) w.heap.size [] w (w.drewN q) (hd.below (pw_below_drewN (Below.refl _ _) _)) (fun k _ => by simp [Value.ownBlock]) (pw_below_drewN (Below.refl _ _) _) (Nat.le_refl _) (Kd.R_nil _ _ _ _ _) (by simpa using hs)⟩
  (by_cases hc : T.flat.length ≤ 40); (focus ((have hct : ((40 : Int) < (T.flat.length : Int)) = False := eq_false (by omega)); (rw [decide_eq_true hc, if_pos hc]); (clear hd hs hc); (generalize T.flat.length = n at *); (go_enter Try.func136, Try.ntmps136); (go_wp2_with (first | (go_at_call 169; (with_reducible refine HSZ.out.mono ?_); rintro e w2 ⟨rfl, ⟨q, rfl⟩⟩) | (go_at_call 170; (with_reducible refine (HNO.out _).mono ?_); rintro e w3 ⟨v', rfl, N3⟩))); (go_ret2); (exact ⟨_, rfl, ⟨N3.out.r, N3.out.hb⟩⟩))); (focus ((have hct : ((40 : Int) < (T.flat.length : Int)) = True := eq_true (by omega)); (rw [decide_eq_false hc, if_neg hc]); (clear hd hs hc HNO); (generalize T.flat.length = n at *); (go_enter Try.func136, Try.ntmps136); (go_wp2_with (first | (go_at_call 169; (with_reducible refine HSZ.out.mono ?_); rintro e w2 ⟨rfl, ⟨q, rfl⟩⟩))); (go_ret2); (exact ⟨_, rfl, ⟨Kd.R_nil _ _ _ _ _, pw_below_drewN (Below.refl _ _) _⟩⟩)))

/-! ### impl_costOf: function 137 -/
def impl_costOf.l0 : Nat → Int → List (S96) → Int → Int → Option (Int)
  | 0, _, _, _, _ => none
  | k + 1, x3, x6, x7, x8 => if x8 < x7 then (if 0 ≤ x8 then (if x8 < (x6.length : Int) then ((impl_cost.f k ((rd_T96 x6 x8).f0)).bind fun t309 => (impl_costOf.l0 k (wrap64 (x3 + t309)) x6 x7 (wrap64 (x8 + 1)))) else (none)) else (none)) else (some x3)
def impl_costOf.f (k : Nat) (l0 : List (S96)) : Option (Int) := impl_costOf.l0 k 0 l0 (l0.length : Int) 0
set_option maxHeartbeats 8000000 in
set_option maxRecDepth 100000 in
theorem impl_costOf.calls (k : Nat) (A0 : Option Addr) (c0 : Nat) (l0 : List (S96)) (r : Int) (w : World) (hr0 : Kd.C k96 w A0 l0.length l0) (hc0 : l0.length ≤ c0) (h : impl_costOf.f k l0 = some r) :
    Calls Try.prog 137 #[.slice A0 l0.length c0] w fun e w' => e = .returned (.int .i64 r) ∧ Below w.heap.size w w' := by
  (have hu96 := Try.underlying96); (have HR0 := Aside0.mk hr0); (have HC0 := Aside0.mk hc0); (clear hr0 hc0); (have HB := Aside0.mk (Below.refl w.heap.size w)); (have H : (impl_costOf.l0 k 0 l0 (l0.length : Int) 0) = some r := h); (clear h); (have H' := Aside0.mk H); (clear H); (go_enter Try.func137, Try.ntmps137); (go_wp2)
  go_loopg [3, 8] k (fun kq v3 v8 w' => ∃ (x3_1 : Int) (x8_1 : Int), v3 = .int .i64 x3_1 ∧ v8 = .int .i64 x8_1 ∧ Aside0 (impl_costOf.l0 kq x3_1 l0 (l0.length : Int) x8_1 = some r) ∧ Aside0 (kq ≤ k) ∧ Aside0 (Below w.heap.size w w'))
  case atStart => exact ⟨(0), (0), (by first | rfl | (simp; done) | (simp [*]; done)), (by first | rfl | (simp; done) | (simp [*]; done)), H', ⟨Nat.le_refl _⟩, ⟨hbQ⟩⟩
  case round =>
    (clear H'); (try clear c1); (obtain ⟨x3_1, x8_1, rfl, rfl, HA, HK1, HB⟩ := hrel)
    cases gk with
    | zero => exact absurd HA.out (by simp [impl_costOf.l0])
    | succ k1 =>
      (have H := HA.out); (clear HA); (simp only [impl_costOf.l0] at H); (by_cases c2 : x8_1 < (l0.length : Int))
      · rw [if_pos c2] at H
        (have c2b0 : decide (x8_1 < (l0.length : Int)) = true := decide_eq_true c2); (clear c2); (by_cases c3 : 0 ≤ x8_1)
        · rw [if_pos c3] at H
          (have c3b0 : decide (0 ≤ x8_1) = true := decide_eq_true c3); (clear c3); (by_cases c4 : x8_1 < (l0.length : Int))
          · rw [if_pos c4] at H
            (have c4b0 : decide (x8_1 < (l0.length : Int)) = true := decide_eq_true c4); (clear c4); (replace H := Option.bind_eq_some_iff.mp H); (obtain ⟨t309, A50, H⟩ := H); (replace H : (impl_costOf.l0 k1 (wrap64 (x3_1 + t309)) l0 (l0.length : Int) (wrap64 (x8_1 + 1))) = some r := H); (have A5 := Aside0.mk A50); (clear A50); (have H' := Aside0.mk H); (clear H); (have p307 : 0 ≤ (x8_1 : Int) := odQ); (have q307 : x8_1 < (l0.length : Int) := odQ); (obtain ⟨ad307, e307, hx307_0, hx307_1⟩ := at_T96 HR0.out x8_1 p307 q307); (cases e307); (replace hx307_0 := (HB.out.cell (World.block_lt_of_cell? w _ hx307_0)).trans hx307_0); (replace hx307_1 := (HB.out.cell (World.block_lt_of_cell? w _ hx307_1)).trans hx307_1); (replace p307 := eq_true p307); (replace q307 := eq_true q307); (go_wp2_with (first | ((with_reducible refine gate_dst (N := 5) rfl ?_); refine box_event rfl (N := 5) rfl (cs := #[.int .i64 0, .int .i64 0]) (t := 96) (by first | (go_simp; done) | (go_simp; rfl)) ?_; intro gb308 hg w6 hbox hb; have n0_ := Aside0.mk (below_step hbQ hb); have n1_ := Aside0.mk (hbox); have n2_ := Aside0.mk (gwQ (w := w) hg); have n3_ := Aside0.mk (gwQ (w := w) hg); clear HB; have HB := n0_; have BK308 := n1_; have GW308 := n2_; have GE308 := n3_; clear n0_ n1_ n2_ n3_; clear hb hbox hg; have hcz7_0 : w6.cell? ⟨gb308, 0, none⟩ = some (.int .i64 0) := (blk_cell BK308.out 0).trans rfl; have hcz7_1 : w6.cell? ⟨gb308, 1, none⟩ = some (.int .i64 0) := (blk_cell BK308.out 1).trans rfl; have hfz7_0 := blk_frozen BK308.out 0; have hfz7_1 := blk_frozen BK308.out 1) | ((with_reducible refine gate_callee (f := 171) rfl ?_); refine goesL_ (some 15) rfl rfl Try.func171 (by kernel_rfl) rfl #[.int .i64 ((rd_T96 l0 x8_1).f0)] rfl eqQ ?_; (with_reducible refine (impl_cost.calls k1 ((rd_T96 l0 x8_1).f0) t309 _ A5.out).mono ?_); rintro e w' ⟨rfl, ⟨nd, rfl⟩⟩; refine ⟨_, rfl, ?_⟩))); (go_roundg k1)
            case measure => have := HK1.out; omega
            case rel => exact ⟨(wrap64 (x3_1 + t309)), (wrap64 (x8_1 + 1)), (by first | rfl | (simp; done) | (simp [*]; done)), (by first | rfl | (simp; done) | (simp [*]; done)), H', ⟨by have := HK1.out; omega⟩, ⟨hbQ⟩⟩
          (focus ((rw [if_neg c4] at H); (exact absurd H (by simp))))
        (focus ((rw [if_neg c3] at H); (exact absurd H (by simp))))
      (focus ((rw [if_neg c2] at H); (have c2b0 : decide (x8_1 < (l0.length : Int)) = false := decide_eq_false c2); (clear c2); (obtain rfl := Option.some.inj H); (go_wp2); (go_ret); (exact ⟨by first | rfl | (simp [errW_none, errW_some] <;> rfl) | (simp [*, errW_none, errW_some] <;> rfl), hbQ⟩)))

end Go.Proofs.Ytakblgcheakbnaa.PFnExactExtract
