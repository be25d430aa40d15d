/- Functions of the program and of the reference as plain Lean functions, and what their calls come to; partly printed by a program, partly by hand; no condition beyond what each theorem says. -/
import Derived.Test.YtlneknaiimmfmaaPFnExactEvalTermx0
import Derived.Test.YtlneknaiimmfmaaPFnExactEvalTermx4
namespace Go.Proofs.Ytlneknaiimmfmaa.PFnExactEvalTerm
open Go.RowKit Go.Proofs.YtlneknaiimmfmaaW.PrintWords Go.Proofs.YtlneknaiimmfmaaW.PrintLast Go.Proofs.YtlneknaiimmfmaaW.PrintMore
attribute [local go_sem] max2_int min2_int max_two min_two max_three min_three max_four min_four   -- for this text's walks alone
set_option linter.unusedVariables false
set_option linter.unusedSimpArgs false

/-! ### impl.trees: function 83, by hand -/
theorem arityC (op : Int) (w : World) : Calls Try.prog 108 #[.int .i64 op] w fun e w' => e = .returned (.int .i64 (Tree.arity op)) ∧ Drawn0 w w' := by
  refine impl_arity.calls 1 op _ w ?_
  unfold impl_arity.f Tree.arity
  by_cases h1 : op = 1
  · subst h1; rfl
  · rw [if_neg h1]
    simp only [impl_arity.j0]
    by_cases h2 : op = 2
    · subst h2; rfl
    · rw [if_neg (by simpa using h2), if_neg (by omega : ¬ (op = 1 ∨ op = 2))]
      by_cases h3 : op = 3
      · rw [if_pos h3, if_pos h3]
      · rw [if_neg h3, if_neg h3]
        by_cases h4 : op = 11
        · rw [if_pos h4, if_pos h4]
        · rw [if_neg h4, if_neg h4]
theorem numOKC (op n : Int) (w : World) : Calls Try.prog 116 #[.int .i64 op, .int .i64 n] w fun e w' => e = .returned (.bool (Tree.numOK op n)) ∧ Drawn0 w w' := by
  refine impl_numOK.calls op n _ w ?_
  unfold impl_numOK.f Tree.numOK impl_isOp.f impl_within.f
  by_cases h1 : op = 1
  · rw [if_pos h1, if_pos h1]
  · rw [if_neg h1, if_neg h1]
    by_cases h2 : op = 2
    · rw [if_pos h2, if_pos h2]
      by_cases h3 : n ≥ 0
      · rw [if_pos h3]; congr 1; rw [decide_eq_decide]; omega
      · rw [if_neg h3, decide_eq_false (by omega)]
    · rw [if_neg h2, if_neg h2]
      by_cases h3 : op ≥ 1
      · rw [if_pos h3]
        by_cases h4 : op ≤ 11
        · rw [decide_eq_true h4, Option.bind_some, Option.bind_some, if_pos rfl]
          congr 1
          rw [Bool.eq_iff_iff]; simp; omega
        · rw [decide_eq_false h4, decide_eq_false (by omega)]; rfl
      · rw [if_neg h3, decide_eq_false (by omega)]; rfl
theorem withinC (a b c : Int) (w : World) : Calls Try.prog 84 #[.int .i64 a, .int .i64 b, .int .i64 c] w fun e w' => e = .returned (.bool (decide (b ≤ a ∧ a ≤ c))) ∧ Drawn0 w w' := by
  refine impl_within.calls a b c _ w ?_
  unfold impl_within.f
  by_cases h : a ≥ b
  · rw [if_pos h]; congr 1; rw [decide_eq_decide]; omega
  · rw [if_neg h, decide_eq_false (by omega)]
/-- A list of nodes as pairs. -/
def toP (l : List S87) : List (Int × Int) := l.map fun x => (x.f0, x.f1)
theorem toP_len (l : List S87) : (toP l).length = l.length := List.length_map _
theorem build_succ (l : List S87) (k : Nat) (hk : k < l.length) {s0 s : List Tree.Tr × List Tree.Tr} (h : Tree.build (toP (l.take k)) s0 = some s) : Tree.build (toP (l.take (k + 1))) s0 = Tree.step s ((l.getD k z87).f0, (l.getD k z87).f1) := by
  have e : l.take (k + 1) = l.take k ++ [l.getD k z87] := by
    rw [List.take_add_one, List.getD_eq_getElem?_getD, List.getElem?_eq_getElem hk]
    rfl
  rw [e]
  unfold toP at h ⊢
  rw [List.map_append, Tree.build_append, h]
  show (Tree.step s _).bind (Tree.build []) = _
  cases Tree.step s ((l.getD k z87).f0, (l.getD k z87).f1) <;> rfl
theorem build_fail (l : List S87) (k : Nat) (hk : k < l.length) {s0 s : List Tree.Tr × List Tree.Tr} (h : Tree.build (toP (l.take k)) s0 = some s) (hf : Tree.step s ((l.getD k z87).f0, (l.getD k z87).f1) = none) : Tree.build (toP l) s0 = none := by
  have h1 := build_succ l k hk h
  have e : toP l = toP (l.take (k + 1)) ++ toP (l.drop (k + 1)) := by unfold toP; rw [← List.map_append, List.take_append_drop]
  rw [e, Tree.build_append, h1, hf]
  rfl
theorem treesOf_none (l : List S87) (h : Tree.build (toP l) ([], []) = none) : Tree.treesOf (toP l) = none := by
  unfold Tree.treesOf
  split
  · rw [h]; rfl
  · rfl
/-- What trees hands back. -/
def TreesRes (w w' : World) (r : Option (List Tree.Tr)) (v : Value) : Prop :=
  match r with
  | none => v = .slice none 0 0
  | some Ts => ∃ az : List Addr, 0 < Ts.length ∧ Kd.R Tree.ptrK 91 w' w.heap.size (fun _ => True) v az ∧ Tree.Trees w' (fun k => w.heap.size ≤ k ∧ some k ≠ v.ownBlock) Ts az
set_option maxHeartbeats 8000000 in
set_option maxRecDepth 100000 in
theorem impl_trees.calls (A0 : Option Addr) (c0 : Nat) (l0 : List S87) (w : World) (hr0 : Kd.C k87 w A0 l0.length l0) (hc0 : l0.length ≤ c0) :
    Calls Try.prog 83 #[.slice A0 l0.length c0] w fun e w' => ∃ v : Value, e = .returned v ∧ Aside0 (TreesRes w w' (Tree.treesOf (toP l0)) v) ∧ Below w.heap.size w w' := by
  have HR0 := Aside0.mk hr0
  have HC0 := Aside0.mk hc0
  clear hr0 hc0
  have HB := Aside0.mk (Below.refl w.heap.size w)
  by_cases hlen : 1 ≤ (l0.length : Int) ∧ (l0.length : Int) ≤ 40
  · have hW := fun W => withinC (l0.length : Int) 1 40 W
    rw [decide_eq_true hlen] at hW
    have HLEN := Aside0.mk hlen
    clear hlen
    go_enter Try.func83, Try.ntmps83
    go_wp2_with (first | (go_at_call 84; refine (hW _).mono ?_; rintro e w' ⟨rfl, ⟨q, rfl⟩⟩) | ((with_reducible refine gate_dst (N := 13) rfl ?_); refine Kd.R_lit Tree.ptrK _ 91 ?hg (N := 13) ?hd (xs := ([] : List Addr)) (inner := []) (ok := fun _ => True) (okp := fun _ => True) ?hr ?hp (fun _ hk => hk) trivial (Below.refl _ _) (Nat.le_refl _) (by simp) ?_; (case hd => rfl); (case hg => rfl); (case hr => first | (go_simp; done) | (go_simp; rfl)); (case hp => exact (Reps.none _ _)); intro v13 w13 ho13 hb13 hg_ hnew_; clear hg_ hnew_; have HO13 := Aside0.mk ho13; have HB13 := Aside0.mk hb13; clear ho13 hb13) | ((with_reducible refine gate_dst (N := 14) rfl ?_); refine Kd.R_lit Tree.ptrK _ 91 ?hg (N := 14) ?hd (xs := ([] : List Addr)) (inner := []) (ok := fun _ => True) (okp := fun _ => True) ?hr ?hp (fun _ hk => hk) trivial (Below.refl _ _) (Nat.le_refl _) (by simp) ?_; (case hd => rfl); (case hg => rfl); (case hr => first | (go_simp; done) | (go_simp; rfl)); (case hp => exact (Reps.none _ _)); intro v14 w14 ho14 hb14 hg14_ hnew14_; clear hg14_ hnew14_; have HO14 := Aside0.mk ho14; have HB14 := Aside0.mk hb14; clear ho14 hb14))
    go_loopg [3, 4, 17] l0.length (fun gg v3 v4 s17 wr => ∃ x : Int, s17 = .int .i64 x ∧ Aside0 (0 ≤ x ∧ x ≤ (l0.length : Int) ∧ l0.length - x.toNat ≤ gg ∧ ∃ s p o, Tree.build (toP (l0.take x.toNat)) ([], []) = some s ∧ Tree.St w wr v3 v4 s p o))
    case atStart =>
      refine ⟨0, rfl, ⟨by omega, by omega, by omega, ([], []), [], [], rfl, ?_⟩⟩
      have hb14 : Below w.heap.size w w14 := below_step (below_step (Below.refl _ _ |> fun h => pw_below_drewN h q) HB13.out) HB14.out
      have hs : w.heap.size ≤ w13.heap.size := HB13.out.size
      refine ⟨Kd.R_grown (Kd.R_lower HO13.out (Nat.le_refl _)) (Tree.grown_below HB14.out) (fun _ _ => by simp), Kd.R_lower HO14.out hs, fun k hk he => ?_, Tree.Trees.nil _, Tree.Trees.nil _, hb14⟩
      have h1 := Kd.R_lt HO13.out k hk
      have h2 := Kd.R_base HO14.out k he
      omega
    case round =>
      obtain ⟨x, rfl, A⟩ := hrel
      by_cases c2 : x < (l0.length : Int)
      · obtain ⟨h0, hxl, hgg, s, p, o, hbuild, hst⟩ := A.out
        obtain ⟨A3, c3, rfl, hc3, hC3⟩ := Tree.row_slice hst.r3
        obtain ⟨A4, c4, rfl, hc4, hC4⟩ := Tree.row_slice hst.r4
        have HST := Aside0.mk hst
        have HBU := Aside0.mk hbuild
        have HGG := Aside0.mk hgg
        have HC3 := Aside0.mk hC3
        have HCC3 := Aside0.mk hc3
        clear A hst hbuild hgg hxl hc3 hC3 hc4 hC4
        obtain ⟨ad, e1, hx0, hx1⟩ := at_T87 HR0.out x h0 c2
        cases e1
        replace hx0 := (HST.out.hb.cell (World.block_lt_of_cell? w _ hx0)).trans hx0
        replace hx1 := (HST.out.hb.cell (World.block_lt_of_cell? w _ hx1)).trans hx1
        have hN := fun W => numOKC (rd_T87 l0 x).f0 (rd_T87 l0 x).f1 W
        have hA := fun W => arityC (rd_T87 l0 x).f0 W
        have H0 := Aside0.mk h0
        have C2 := Aside0.mk c2
        replace h0 := eq_true h0
        replace c2 := eq_true c2
        cases hnum : Tree.numOK (rd_T87 l0 x).f0 (rd_T87 l0 x).f1 with
        | false =>
          rw [hnum] at hN
          have HNUM := Aside0.mk hnum
          clear hnum
          go_wp2_with (first | ((with_reducible refine gate_dst (N := 6) rfl ?_); refine box_event ?hg (N := 6) ?hd (cs := #[.int .i64 0, .int .i64 0]) (t := 87) ?hr ?_; (case hd => rfl); (case hg => rfl); (case hr => first | (go_simp; done) | (go_simp; rfl)); intro gb hg w6 hbox hb; have HBOX := Aside0.mk hbox; have HBB := Aside0.mk hb; have HGB := Aside0.mk hg; have hcz7_0 : w6.cell? ⟨gb, 0, none⟩ = some (.int .i64 0) := (blk_cell HBOX.out 0).trans rfl; have hcz7_1 : w6.cell? ⟨gb, 1, none⟩ = some (.int .i64 0) := (blk_cell HBOX.out 1).trans rfl; have hfz7_0 := blk_frozen HBOX.out 0; have hfz7_1 := blk_frozen HBOX.out 1; clear hbox hb hg) | (go_at_call 116; refine (hN _).mono ?_; rintro e w' ⟨rfl, ⟨q, rfl⟩⟩) | (go_at_call 108; refine (hA _).mono ?_; rintro e w' ⟨rfl, ⟨q', rfl⟩⟩))
          go_ret
          have hgb : wr.heap.size ≤ gb := Nat.le_of_eq HGB.out.symm
          refine ⟨.slice none 0 0, rfl, ⟨?_⟩, below_step HST.out.hb (by repeat (first | exact HBB.out | apply pw_below_drewN | refine below_set ?_ hgb))⟩
          rw [treesOf_none l0 (build_fail l0 x.toNat (by have := H0.out; have := C2.out; omega) HBU.out (if_neg ?_))]
          · rfl
          · rintro ⟨h1, -⟩; exact absurd (HNUM.out.symm.trans h1) (by simp)
        | true =>
          rw [hnum] at hN
          have HNUM := Aside0.mk hnum
          clear hnum
          by_cases har : (p.length : Int) < Tree.arity (rd_T87 l0 x).f0
          · have HAR := Aside0.mk har
            replace har := eq_true har
            go_wp2_with (first | ((with_reducible refine gate_dst (N := 6) rfl ?_); refine box_event ?hg (N := 6) ?hd (cs := #[.int .i64 0, .int .i64 0]) (t := 87) ?hr ?_; (case hd => rfl); (case hg => rfl); (case hr => first | (go_simp; done) | (go_simp; rfl)); intro gb hg w6 hbox hb; have HBOX := Aside0.mk hbox; have HBB := Aside0.mk hb; have HGB := Aside0.mk hg; have hcz7_0 : w6.cell? ⟨gb, 0, none⟩ = some (.int .i64 0) := (blk_cell HBOX.out 0).trans rfl; have hcz7_1 : w6.cell? ⟨gb, 1, none⟩ = some (.int .i64 0) := (blk_cell HBOX.out 1).trans rfl; have hfz7_0 := blk_frozen HBOX.out 0; have hfz7_1 := blk_frozen HBOX.out 1; clear hbox hb hg) | (go_at_call 116; refine (hN _).mono ?_; rintro e w' ⟨rfl, ⟨q, rfl⟩⟩) | (go_at_call 108; refine (hA _).mono ?_; rintro e w' ⟨rfl, ⟨q', rfl⟩⟩))
            go_ret
            have hgb : wr.heap.size ≤ gb := Nat.le_of_eq HGB.out.symm
            refine ⟨.slice none 0 0, rfl, ⟨?_⟩, below_step HST.out.hb (by repeat (first | exact HBB.out | apply pw_below_drewN | refine below_set ?_ hgb))⟩
            rw [treesOf_none l0 (build_fail l0 x.toNat (by have := H0.out; have := C2.out; omega) HBU.out (if_neg ?_))]
            · rfl
            · rintro ⟨-, h2⟩; have h3 := HAR.out; rw [HST.out.t3.1] at h3; exact absurd h2 (by show ¬ _; exact Int.not_le.2 h3)
          · have HAR := Aside0.mk har
            replace har := eq_false har
            go_wp2_with (first | ((with_reducible refine gate_dst (N := 6) rfl ?_); refine box_event ?hg (N := 6) ?hd (cs := #[.int .i64 0, .int .i64 0]) (t := 87) ?hr ?_; (case hd => rfl); (case hg => rfl); (case hr => first | (go_simp; done) | (go_simp; rfl)); intro gb hg w6 hbox hb; have HBOX := Aside0.mk hbox; have HBB := Aside0.mk hb; have HGB := Aside0.mk hg; have hcz7_0 : w6.cell? ⟨gb, 0, none⟩ = some (.int .i64 0) := (blk_cell HBOX.out 0).trans rfl; have hcz7_1 : w6.cell? ⟨gb, 1, none⟩ = some (.int .i64 0) := (blk_cell HBOX.out 1).trans rfl; have hfz7_0 := blk_frozen HBOX.out 0; have hfz7_1 := blk_frozen HBOX.out 1; clear hbox hb hg) | (go_at_call 116; refine (hN _).mono ?_; rintro e w' ⟨rfl, ⟨q, rfl⟩⟩) | (go_at_call 108; refine (hA _).mono ?_; rintro e w' ⟨rfl, ⟨q', rfl⟩⟩))
            rename_i qa K9 aK9
            have hm0 : 0 ≤ Tree.arity (rd_T87 l0 x).f0 := (Tree.arity_range _).1
            obtain ⟨m, hm⟩ : ∃ m : Nat, m = p.length - (Tree.arity (rd_T87 l0 x).f0).toNat := ⟨_, rfl⟩
            have hmle : m ≤ p.length := by omega
            have hwr : wrap64 ((p.length : Int) - Tree.arity (rd_T87 l0 x).f0) = (m : Int) := by
              have := HC3.out.2.1
              have := HAR.out
              unfold wrap64
              omega
            rw [hwr]
            have hgb : wr.heap.size ≤ gb := Nat.le_of_eq HGB.out.symm
            have hb10 : Below wr.heap.size wr (((w6.setCell ⟨gb, 0, none⟩ (.int .i64 (rd_T87 l0 x).f0)).setCell ⟨gb, 1, none⟩ (.int .i64 (rd_T87 l0 x).f1)).drewN (q + qa + q')) := pw_below_drewN (below_set (below_set HBB.out hgb) hgb) _
            have hlt : gb < w6.heap.size := World.block_lt_of_cell? w6 _ hcz7_0
            have hc10 : (((w6.setCell ⟨gb, 0, none⟩ (.int .i64 (rd_T87 l0 x).f0)).setCell ⟨gb, 1, none⟩ (.int .i64 (rd_T87 l0 x).f1)).drewN (q + qa + q')).cell? ⟨gb, 0, none⟩ = some (.int .i64 (rd_T87 l0 x).f0) := by go_simp
            have hc11 : (((w6.setCell ⟨gb, 0, none⟩ (.int .i64 (rd_T87 l0 x).f0)).setCell ⟨gb, 1, none⟩ (.int .i64 (rd_T87 l0 x).f1)).drewN (q + qa + q')).cell? ⟨gb, 1, none⟩ = some (.int .i64 (rd_T87 l0 x).f1) := by go_simp
            generalize (((w6.setCell ⟨gb, 0, none⟩ (.int .i64 (rd_T87 l0 x).f0)).setCell ⟨gb, 1, none⟩ (.int .i64 (rd_T87 l0 x).f1)).drewN (q + qa + q')) = W10 at hb10 hc10 hc11 ⊢
            have HST10 := Aside0.mk (HST.out.below hb10)
            have HB10 := Aside0.mk hb10
            clear hb10 HST hcz7_0 hcz7_1 hfz7_0 hfz7_1 hx0 hx1 hlt hgb
            have HM := Aside0.mk hm
            have HMLE := Aside0.mk hmle
            clear hm hmle hwr hm0
            have hs0 : (0 ≤ (m : Int)) = True := eq_true (by omega)
            have hs1 : ((m : Int) ≤ (p.length : Int)) = True := eq_true (by have := HMLE.out; omega)
            have hs2 : ((p.length : Int) ≤ (c3 : Int)) = True := eq_true (by have := HCC3.out; omega)
            have hlt10 : gb < W10.heap.size := World.block_lt_of_cell? W10 _ hc10
            have hclone : ∀ W, Below W10.heap.size W10 W → Calls Try.prog 117 #[.slice (if c3 = m then A3 else A3.map (fun x => x.add m)) (p.length - m) (c3 - m)] W fun e w' => ∃ (A5 : Option Addr) (c5 : Nat), e = .returned (.slice A5 (p.length - m) c5) ∧ Aside0 (Kd.R Tree.ptrK 91 w' W10.heap.size (fun _ => True) (.slice A5 (p.length - m) c5) (p.drop m)) ∧ w'.cell? ⟨gb, 0, none⟩ = some (.int .i64 (rd_T87 l0 x).f0) ∧ w'.cell? ⟨gb, 1, none⟩ = some (.int .i64 (rd_T87 l0 x).f1) ∧ Below W10.heap.size W10 w' := by
              intro W hW
              have hc := Kd.C_drop (Kd.C_below (Tree.row_C HST10.out.r3) hW) HMLE.out HCC3.out
              rw [show m * Tree.ptrK.sz = m from Nat.mul_one m] at hc
              have hl : (p.drop m).length = p.length - m := List.length_drop
              rw [← hl]
              refine (slices_Clone_ptr.calls _ _ _ _ hc (by rw [hl]; have := HCC3.out; omega) (by rw [hl]; have := HM.out; have := (Tree.arity_range (rd_T87 l0 x).f0).2; have := HAR.out; omega)).mono ?_
              rintro e w' ⟨v0, rfl, hR, hb⟩
              have hb' := below_step hW hb
              obtain ⟨A5, c5, rfl, -, -⟩ := Tree.row_slice hR
              rw [hl] at hR ⊢
              exact ⟨A5, c5, rfl, ⟨Kd.R_lower hR hW.size⟩, (hb'.cell hlt10).trans hc10, (hb'.cell hlt10).trans hc11, hb'⟩
            clear hlt10
            go_region_held3 (fun w' => w'.cell? ⟨gb, 0, none⟩ = some (.int .i64 (rd_T87 l0 x).f0) ∧ w'.cell? ⟨gb, 1, none⟩ = some (.int .i64 (rd_T87 l0 x).f1) ∧ Below W10.heap.size W10 w') (first | (refine ⟨?_, ?_, Below.drew (Below.refl _ _)⟩ <;> go_keep) | exact ⟨by assumption, by assumption, by assumption⟩ | (refine ⟨?_, ?_, ?_⟩ <;> first | (exact below_alloc (by assumption) _) | go_keep) | go_keep) ((go_at_call 117; refine (hclone _ (Below.drew (Below.refl _ _))).mono ?_; rintro e wc ⟨A5, c5, rfl, HRc, hcc0, hcc1, hBc⟩; (try dsimp only)))
            have hn := HST10.out.nodeT (op := (rd_T87 l0 x).f0) (n := (rd_T87 l0 x).f1) (W2 := wc.alloc (.cells #[.int .i64 (rd_T87 l0 x).f0, .int .i64 (rd_T87 l0 x).f1, .slice A5 (p.length - m) c5] 124)) (g := wc.heap.size) HRc.out hBc (below_alloc (Below.refl _ _) _) (by go_simp) (by go_simp) (by go_simp) hBc.size HMLE.out
            generalize wc.alloc (.cells #[.int .i64 (rd_T87 l0 x).f0, .int .i64 (rd_T87 l0 x).f1, .slice A5 (p.length - m) c5] 124) = W12 at hn ⊢
            generalize wc.heap.size = gm at hn ⊢
            generalize (if c3 = m then A3 else A3.map (fun x => x.add m)) = A47
            have HS12 := Aside0.mk hn.1
            have HT12 := Aside0.mk hn.2
            clear hn hc10 hc11 hcc0 hcc1 hBc hclone HRc
            have hs3 : ((m : Int) ≤ (c3 : Int)) = True := eq_true (by have := HMLE.out; have := HCC3.out; omega)
            have HBL := Aside0.mk (Tree.build_len _ _ _ HBU.out)
            have HPL := Aside0.mk HST10.out.t3.1
            have HOL := Aside0.mk HST10.out.t4.1
            have hX : x.toNat ≤ l0.length := by have := C2.out; omega
            have HX := Aside0.mk hX
            clear hX
            go_wp2_with (first | ((with_reducible refine gate_builtin (b := .append) (xs := #[.tmp 53, .tmp 55]) rfl ?_); at_builtin; refine Kd.R_append Tree.ptrK (w0 := w) w.heap.size rfl (.tmp 53) (.tmp 55) 95 91 (.pointer none) 8 rfl Try.underlying95 infoPtr rfl (by decide) (by omega) (.slice A3 m c3) (p.take m) ⟨gm, 0, none⟩ [.pointer (some ⟨gm, 0, none⟩)] (fun _ => True) (fun _ => False) rfl rfl ?aP (fun _ hk => hk.elim) ?aF ?aO ?aB ?aS ?aL ?_; (case aP => exact rfl); (case aF => exact (fun _ _ => trivial)); (case aO => exact HS12.out.r3); (case aB => exact HS12.out.hb); (case aS => exact HS12.out.hb.size); (case aL => have := HBL.out; have := HPL.out; have := HOL.out; have := HX.out; have := HLEN.out; have := HM.out; simp [toP] at *; omega); intro v31 w31 ho hb hg hat; have h31 := HS12.out.push3 HT12.out ho hg hat hb; have HS13 := Aside0.mk h31.1; have HT13 := Aside0.mk h31.2; clear ho hb hg hat h31) | ((with_reducible refine gate_builtin (b := .append) (xs := #[.tmp 57, .tmp 59]) rfl ?_); at_builtin; refine Kd.R_append Tree.ptrK (w0 := w) w.heap.size rfl (.tmp 57) (.tmp 59) 95 91 (.pointer none) 8 rfl Try.underlying95 infoPtr rfl (by decide) (by omega) (.slice A4 o.length c4) o ⟨gm, 0, none⟩ [.pointer (some ⟨gm, 0, none⟩)] (fun _ => True) (fun _ => False) rfl rfl ?aP (fun _ hk => hk.elim) ?aF ?aO ?aB ?aS ?aL ?_; (case aP => exact rfl); (case aF => exact (fun _ _ => trivial)); (case aO => exact HS13.out.r4); (case aB => exact HS13.out.hb); (case aS => exact HS13.out.hb.size); (case aL => have := HBL.out; have := HPL.out; have := HOL.out; have := HX.out; have := HLEN.out; have := HM.out; simp [toP] at *; omega); intro v41 w41 ho hb hg hat; have h41 := HS13.out.push4 HT13.out ho hg hat hb; have HS14 := Aside0.mk h41; clear ho hb hg hat h41))
            go_roundg (l0.length - (x.toNat + 1))
            case measure => have := HGG.out; have := C2.out; have := H0.out; omega
            case rel =>
              have e1 : wrap64 (x + 1) = x + 1 := by have := HLEN.out; have := C2.out; have := H0.out; unfold wrap64; omega
              have hx1' : (x + 1).toNat = x.toNat + 1 := by have := H0.out; omega
              refine ⟨x + 1, by rw [e1], ⟨by have := H0.out; omega, by have := C2.out; omega, by rw [hx1']; exact Nat.le_refl _, _, _, _, ?_, HS14.out⟩⟩
              rw [hx1', build_succ l0 x.toNat (by have := H0.out; have := C2.out; omega) HBU.out]
              unfold Tree.step
              have ha : Tree.arity (rd_T87 l0 x).f0 ≤ (s.1.length : Int) := by rw [← HPL.out]; exact HAR.out
              refine (if_pos ⟨HNUM.out, ha⟩).trans ?_
              rw [HM.out, HPL.out]
              rfl
      · obtain ⟨h0, hxl, hgg, s, p, o, hbuild, hst⟩ := A.out
        have hx : x = (l0.length : Int) := by omega
        subst hx
        obtain ⟨A3, c3, rfl, hc3, hC3⟩ := Tree.row_slice hst.r3
        have HST := Aside0.mk hst
        have hbl : Tree.build (toP l0) ([], []) = some s := by
          have : ((l0.length : Int)).toNat = l0.length := by omega
          rw [this, List.take_length] at hbuild
          exact hbuild
        have HBU := Aside0.mk hbl
        have HPL := Aside0.mk hst.t3.1
        clear A hst hbuild hgg hxl hc3 hC3 hbl
        by_cases hp : p.length = 1
        · have HP := Aside0.mk hp
          replace hp : (p.length : Int) = 1 := by omega
          go_wp2
          go_ret
          refine ⟨_, rfl, ⟨?_⟩, HST.out.hb⟩
          unfold Tree.treesOf
          rw [if_pos (by rw [toP_len]; have := HLEN.out; omega), HBU.out]
          show TreesRes _ _ (if s.1.length = 1 then some s.2 else none) _
          rw [if_pos (by rw [← HPL.out]; exact HP.out)]
          refine ⟨o, ?_, HST.out.r4, HST.out.t4.imp (fun k hk => ⟨hk.1, hk.2.2⟩)⟩
          rw [(Tree.build_len _ _ _ HBU.out).2, toP_len]
          have := HLEN.out
          simp
          omega
        · have HP := Aside0.mk hp
          have hp1 : ((p.length : Int) != 1) = true := by rw [bne_iff_ne]; omega
          clear hp
          go_wp2
          go_ret
          refine ⟨.slice none 0 0, rfl, ⟨?_⟩, HST.out.hb⟩
          unfold Tree.treesOf
          rw [if_pos (by rw [toP_len]; have := HLEN.out; omega), HBU.out]
          show TreesRes _ _ (if s.1.length = 1 then some s.2 else none) _
          rw [if_neg (by rw [← HPL.out]; exact HP.out)]
          rfl
  · have hW := fun W => withinC (l0.length : Int) 1 40 W
    rw [decide_eq_false hlen] at hW
    have HLEN := Aside0.mk hlen
    clear hlen
    go_enter Try.func83, Try.ntmps83
    go_wp2_with (go_at_call 84; refine (hW _).mono ?_; rintro e w' ⟨rfl, ⟨q, rfl⟩⟩)
    go_ret
    refine ⟨.slice none 0 0, rfl, ⟨?_⟩, by repeat (first | (with_reducible first | exact HB.out | apply below_alloc | apply pw_below_drewN | apply below_drew1) | exact HB.out)⟩
    unfold Tree.treesOf
    rw [if_neg (by have := HLEN.out; simp [toP]; omega)]
    rfl

/-! ### impl.treeOf: function 78, by hand -/
/-- What treeOf hands back. -/
def TreeRes (w w' : World) (r : Option Tree.Tr) (v : Value) : Prop :=
  match r with
  | none => v = .pointer none
  | some T => ∃ a : Addr, v = .pointer (some a) ∧ Tree.Tree w' (fun k => w.heap.size ≤ k) T a
set_option maxHeartbeats 8000000 in
set_option maxRecDepth 100000 in
theorem impl_treeOf.calls (A0 : Option Addr) (c0 : Nat) (l0 : List S87) (w : World) (hr0 : Kd.C k87 w A0 l0.length l0) (hc0 : l0.length ≤ c0) :
    Calls Try.prog 78 #[.slice A0 l0.length c0] w fun e w' => ∃ v : Value, e = .returned v ∧ Aside0 (TreeRes w w' (Tree.treeOf (toP l0)) v) ∧ Below w.heap.size w w' := by
  have HT := Aside0.mk (impl_trees.calls A0 c0 l0 w hr0 hc0)
  clear hr0 hc0
  unfold Tree.treeOf
  cases hT : Tree.treesOf (toP l0) with
  | none =>
    rw [hT] at HT
    clear hT
    have hnil := fun W => Lib.run_eql_slice_nil (P := Try.prog) W 95 91 none 0 0 0 0 Try.underlying95
    go_enter Try.func78, Try.ntmps78
    go_wp2_with (go_at_call 83; refine HT.out.mono ?_; rintro e w' ⟨v, rfl, hR, hb⟩; obtain rfl := hR.out; have HB := Aside0.mk hb; clear hR hb)
    go_ret
    exact ⟨_, rfl, ⟨rfl⟩, HB.out⟩
  | some Ts =>
    rw [hT] at HT
    clear hT
    have HT2 : Aside0 (Calls Try.prog 83 #[.slice A0 l0.length c0] w fun e w' => ∃ (ad : Addr) (n c : Nat) (a : Addr), e = .returned (.slice (some ad) n c) ∧ 0 < n ∧ w'.cell? (ad.add (n - 1)) = some (.pointer (some a)) ∧ Aside0 (n ≤ 9223372036854775807) ∧ Aside0 (∃ T, Ts.getLast? = some T ∧ Tree.Tree w' (fun k => w.heap.size ≤ k) T a) ∧ Aside0 (Below w.heap.size w w')) := by
      refine ⟨HT.out.mono ?_⟩
      rintro e w' ⟨v, rfl, hR, hb⟩
      obtain ⟨az, hpos, hRR, hTs⟩ := hR.out
      obtain ⟨A, c, rfl, hc, hC⟩ := Tree.row_slice hRR
      have hl : az.length = Ts.length := hTs.1
      obtain ⟨ad, rfl, hcell⟩ := Tree.ptr_at hC (az.length - 1) (by omega)
      refine ⟨ad, az.length, c, _, rfl, by omega, hcell, ⟨hC.2.1⟩, ⟨Ts[Ts.length - 1], ?_, ?_⟩, ⟨hb⟩⟩
      · rw [List.getLast?_eq_getElem?, List.getElem?_eq_getElem (by omega)]
      · rw [hl]
        exact (hTs.2 (Ts.length - 1) (by omega)).imp (fun k hk => hk.1)
    clear HT
    have hnil := fun W ad n c => Lib.run_eql_slice_nil (P := Try.prog) W 95 91 (some ad) n c 0 0 Try.underlying95
    go_enter Try.func78, Try.ntmps78
    go_wp2_with (go_at_call 83; refine HT2.out.mono ?_; rintro e w' ⟨ad, n, c, a, rfl, hn, hcell, HN, HTT, HB⟩; have hw : wrap64 ((n : Int) - 1) = ((n - 1 : Nat) : Int) := (by have := HN.out; unfold wrap64; omega); have hi0 : (0 ≤ ((n - 1 : Nat) : Int)) = True := eq_true (by omega); have hi1 : (((n - 1 : Nat) : Int) < (n : Int)) = True := eq_true (by omega); have hn' := Aside0.mk hn; clear hn)
    go_ret
    obtain ⟨T, e1, e2⟩ := HTT.out
    refine ⟨_, rfl, ⟨?_⟩, HB.out⟩
    show TreeRes _ _ Ts.getLast? _
    rw [e1]
    exact ⟨a, rfl, e2⟩

/-! ### impl_oneIf: function 153 -/
def impl_oneIf.f (a0 : Bool) : Option (Int) := if a0 = true then (some 1) else (some 0)
set_option maxHeartbeats 8000000 in
set_option maxRecDepth 100000 in
theorem impl_oneIf.calls (a0 : Bool) (r : Int) (w : World) (h : impl_oneIf.f a0 = some r) :
    Calls Try.prog 153 #[.bool a0] w fun e w' => e = .returned (.int .i64 r) ∧ Drawn0 w w' := by
  have H : (if a0 = true then (some 1) else (some 0)) = some r := h
  clear h
  by_cases c2 : a0 = true
  · subst c2
    have H1 : (some 1) = some r := by rw [if_pos rfl] at H; exact H
    clear H
    have H := H1
    clear H1
    obtain rfl := Option.some.inj H
    go_enter Try.func153, Try.ntmps153
    go_wp2
    go_ret
    exact ⟨by first | rfl | (simp; done) | (simp [*]; done), by repeat (first | exact Drawn0.refl _ | apply Drawn0.step)⟩
  · replace c2 := Bool.eq_false_iff.mpr c2
    subst c2
    have H1 : (some 0) = some r := by rw [if_neg (show ¬ (false = true) by decide)] at H; exact H
    clear H
    have H := H1
    clear H1
    obtain rfl := Option.some.inj H
    go_enter Try.func153, Try.ntmps153
    go_wp2
    go_ret
    exact ⟨by first | rfl | (simp; done) | (simp [*]; done), by repeat (first | exact Drawn0.refl _ | apply Drawn0.step)⟩

/-! ### impl_doOp: function 142 -/
def impl_doOp.f (a0 : Int) (l1 : List Int) : Option (Int × Bool) := if a0 = 3 then (if 0 < (l1.length : Int) then (some (wrap64 (-(rd l1 0)), false)) else (none)) else (if a0 = 4 then (if 0 < (l1.length : Int) then (if 1 < (l1.length : Int) then (some (wrap64 ((rd l1 0) + (rd l1 1)), false)) else (none)) else (none)) else (if a0 = 5 then (if 0 < (l1.length : Int) then (if 1 < (l1.length : Int) then (some (wrap64 ((rd l1 0) - (rd l1 1)), false)) else (none)) else (none)) else (if a0 = 6 then (if 0 < (l1.length : Int) then (if 1 < (l1.length : Int) then (some (wrap64 ((rd l1 0) * (rd l1 1)), false)) else (none)) else (none)) else (if a0 = 7 then (if 0 < (l1.length : Int) then (if 1 < (l1.length : Int) then (if 0 ≤ (Int.tmod (IntKind.u64.wrap (rd l1 1)) 64) then (some (shl .i64 (rd l1 0) (Int.tmod (IntKind.u64.wrap (rd l1 1)) 64), false)) else (none)) else (none)) else (none)) else (if a0 = 8 then (if 1 < (l1.length : Int) then (if (rd l1 1) = 0 then (some (0, true)) else (if 0 < (l1.length : Int) then (some (wrap64 (Int.tdiv (rd l1 0) (rd l1 1)), false)) else (none))) else (none)) else (if a0 = 9 then (if 0 < (l1.length : Int) then (if 1 < (l1.length : Int) then ((impl_oneIf.f ((rd l1 0) == (rd l1 1))).bind fun t204 => (some (t204, false))) else (none)) else (none)) else (if a0 = 10 then (if 0 < (l1.length : Int) then (if 1 < (l1.length : Int) then ((impl_oneIf.f (decide ((rd l1 0) < (rd l1 1)))).bind fun t207 => (some (t207, false))) else (none)) else (none)) else (if 0 < (l1.length : Int) then (if (rd l1 0) = 0 then (if 2 < (l1.length : Int) then (some (rd l1 2, false)) else (none)) else (if 1 < (l1.length : Int) then (some (rd l1 1, false)) else (none))) else (none)))))))))
set_option maxHeartbeats 8000000 in
set_option maxRecDepth 100000 in
theorem impl_doOp.calls (a0 : Int) (A1 : Option Addr) (c1 : Nat) (l1 : List Int) (r1 : Int) (r2 : Bool) (w : World) (hr1 : Kd.C (Kd.int .i64) w A1 l1.length l1) (hc1 : l1.length ≤ c1) (h : impl_doOp.f a0 l1 = some (r1, r2)) :
    Calls Try.prog 142 #[.int .i64 a0, .slice A1 l1.length c1] w fun e w' => e = .returned (.tuple #[.int .i64 r1, .bool r2]) ∧ Drawn0 w w' := by
  have HR1 := Aside0.mk hr1
  have HC1 := Aside0.mk hc1
  clear hr1 hc1
  have H : (if a0 = 3 then (if 0 < (l1.length : Int) then (some (wrap64 (-(rd l1 0)), false)) else (none)) else (if a0 = 4 then (if 0 < (l1.length : Int) then (if 1 < (l1.length : Int) then (some (wrap64 ((rd l1 0) + (rd l1 1)), false)) else (none)) else (none)) else (if a0 = 5 then (if 0 < (l1.length : Int) then (if 1 < (l1.length : Int) then (some (wrap64 ((rd l1 0) - (rd l1 1)), false)) else (none)) else (none)) else (if a0 = 6 then (if 0 < (l1.length : Int) then (if 1 < (l1.length : Int) then (some (wrap64 ((rd l1 0) * (rd l1 1)), false)) else (none)) else (none)) else (if a0 = 7 then (if 0 < (l1.length : Int) then (if 1 < (l1.length : Int) then (if 0 ≤ (Int.tmod (IntKind.u64.wrap (rd l1 1)) 64) then (some (shl .i64 (rd l1 0) (Int.tmod (IntKind.u64.wrap (rd l1 1)) 64), false)) else (none)) else (none)) else (none)) else (if a0 = 8 then (if 1 < (l1.length : Int) then (if (rd l1 1) = 0 then (some (0, true)) else (if 0 < (l1.length : Int) then (some (wrap64 (Int.tdiv (rd l1 0) (rd l1 1)), false)) else (none))) else (none)) else (if a0 = 9 then (if 0 < (l1.length : Int) then (if 1 < (l1.length : Int) then ((impl_oneIf.f ((rd l1 0) == (rd l1 1))).bind fun t204 => (some (t204, false))) else (none)) else (none)) else (if a0 = 10 then (if 0 < (l1.length : Int) then (if 1 < (l1.length : Int) then ((impl_oneIf.f (decide ((rd l1 0) < (rd l1 1)))).bind fun t207 => (some (t207, false))) else (none)) else (none)) else (if 0 < (l1.length : Int) then (if (rd l1 0) = 0 then (if 2 < (l1.length : Int) then (some (rd l1 2, false)) else (none)) else (if 1 < (l1.length : Int) then (some (rd l1 1, false)) else (none))) else (none)))))))))) = some (r1, r2) := h
  clear h
  by_cases c3 : a0 = 3
  · rw [if_pos c3] at H
    have c3b0 : (a0 == 3) = true := beq_iff_eq.mpr c3
    have c3b1 : (a0 != 3) = false := bne_eq_false_iff_eq.mpr c3
    clear c3
    by_cases c4 : 0 < (l1.length : Int)
    · rw [if_pos c4] at H
      have c4b0 : decide (0 < (l1.length : Int)) = true := decide_eq_true c4
      have c4b1 : decide (0 < l1.length) = true := decide_eq_true (by omega)
      clear c4
      simp only [Option.some.injEq, Prod.mk.injEq] at H
      obtain ⟨rfl, rfl⟩ := H
      have p190 : 0 ≤ (0 : Int) := (by omega)
      have q190 : 0 < (l1.length : Int) := of_decide_eq_true (by first | (with_reducible assumption) | assumption)
      obtain ⟨ad190, e190, hx190_0⟩ := Kd.at_int HR1.out 0 p190 q190
      cases e190
      have qi190 : (0 < l1.length) = True := eq_true (by omega)
      (try rw [show ((0 : Int)).toNat = 0 from rfl] at hx190_0)
      (try rw [Addr.add_zero'] at hx190_0)
      replace p190 := eq_true p190
      replace q190 := eq_true q190
      go_enter Try.func142, Try.ntmps142
      go_wp2
      repeat (go_quiet (fail); try go_wp2)
      go_ret2
      exact ⟨by first | rfl | (simp; done) | (simp [*]; done), by repeat (first | exact Drawn0.refl _ | apply Drawn0.step)⟩
    · rw [if_neg c4] at H
      exact absurd H (by simp)
  · rw [if_neg c3] at H
    have c3b0 : (a0 == 3) = false := beq_eq_false_iff_ne.mpr c3
    have c3b1 : (a0 != 3) = true := bne_iff_ne.mpr c3
    by_cases c5 : a0 = 4
    · rw [if_pos c5] at H
      have c5b0 : (a0 == 4) = true := beq_iff_eq.mpr c5
      have c5b1 : (a0 != 4) = false := bne_eq_false_iff_eq.mpr c5
      clear c5
      by_cases c6 : 0 < (l1.length : Int)
      · rw [if_pos c6] at H
        have c6b0 : decide (0 < (l1.length : Int)) = true := decide_eq_true c6
        have c6b1 : decide (0 < l1.length) = true := decide_eq_true (by omega)
        clear c6
        by_cases c7 : 1 < (l1.length : Int)
        · rw [if_pos c7] at H
          have c7b0 : decide (1 < (l1.length : Int)) = true := decide_eq_true c7
          have c7b1 : decide (1 < l1.length) = true := decide_eq_true (by omega)
          clear c7
          simp only [Option.some.injEq, Prod.mk.injEq] at H
          obtain ⟨rfl, rfl⟩ := H
          have p191 : 0 ≤ (0 : Int) := (by omega)
          have q191 : 0 < (l1.length : Int) := of_decide_eq_true (by first | (with_reducible assumption) | assumption)
          obtain ⟨ad191, e191, hx191_0⟩ := Kd.at_int HR1.out 0 p191 q191
          cases e191
          have qi191 : (0 < l1.length) = True := eq_true (by omega)
          (try rw [show ((0 : Int)).toNat = 0 from rfl] at hx191_0)
          (try rw [Addr.add_zero'] at hx191_0)
          replace p191 := eq_true p191
          replace q191 := eq_true q191
          have p192 : 0 ≤ (1 : Int) := (by omega)
          have q192 : 1 < (l1.length : Int) := of_decide_eq_true (by first | (with_reducible assumption) | assumption)
          obtain ⟨ad192, e192, hx192_0⟩ := Kd.at_int HR1.out 1 p192 q192
          obtain rfl : ad191 = ad192 := (by injection e192)
          (try simp only [show (1 : Int).toNat = 1 from rfl, Nat.reduceMul, Nat.reduceEqDiff, Go.Addr.add, ↓reduceIte] at hx192_0)
          have qi192 : (1 < l1.length) = True := eq_true (by omega)
          (try rw [show ((1 : Int)).toNat = 1 from rfl] at hx192_0)
          replace p192 := eq_true p192
          replace q192 := eq_true q192
          go_enter Try.func142, Try.ntmps142
          go_wp2
          repeat (go_quiet (fail); try go_wp2)
          go_ret2
          exact ⟨by first | rfl | (simp; done) | (simp [*]; done), by repeat (first | exact Drawn0.refl _ | apply Drawn0.step)⟩
        · rw [if_neg c7] at H
          exact absurd H (by simp)
      · rw [if_neg c6] at H
        exact absurd H (by simp)
    · rw [if_neg c5] at H
      have c5b0 : (a0 == 4) = false := beq_eq_false_iff_ne.mpr c5
      have c5b1 : (a0 != 4) = true := bne_iff_ne.mpr c5
      by_cases c8 : a0 = 5
      · rw [if_pos c8] at H
        have c8b0 : (a0 == 5) = true := beq_iff_eq.mpr c8
        have c8b1 : (a0 != 5) = false := bne_eq_false_iff_eq.mpr c8
        clear c8
        by_cases c9 : 0 < (l1.length : Int)
        · rw [if_pos c9] at H
          have c9b0 : decide (0 < (l1.length : Int)) = true := decide_eq_true c9
          have c9b1 : decide (0 < l1.length) = true := decide_eq_true (by omega)
          clear c9
          by_cases c10 : 1 < (l1.length : Int)
          · rw [if_pos c10] at H
            have c10b0 : decide (1 < (l1.length : Int)) = true := decide_eq_true c10
            have c10b1 : decide (1 < l1.length) = true := decide_eq_true (by omega)
            clear c10
            simp only [Option.some.injEq, Prod.mk.injEq] at H
            obtain ⟨rfl, rfl⟩ := H
            have p193 : 0 ≤ (0 : Int) := (by omega)
            have q193 : 0 < (l1.length : Int) := of_decide_eq_true (by first | (with_reducible assumption) | assumption)
            obtain ⟨ad193, e193, hx193_0⟩ := Kd.at_int HR1.out 0 p193 q193
            cases e193
            have qi193 : (0 < l1.length) = True := eq_true (by omega)
            (try rw [show ((0 : Int)).toNat = 0 from rfl] at hx193_0)
            (try rw [Addr.add_zero'] at hx193_0)
            replace p193 := eq_true p193
            replace q193 := eq_true q193
            have p194 : 0 ≤ (1 : Int) := (by omega)
            have q194 : 1 < (l1.length : Int) := of_decide_eq_true (by first | (with_reducible assumption) | assumption)
            obtain ⟨ad194, e194, hx194_0⟩ := Kd.at_int HR1.out 1 p194 q194
            obtain rfl : ad193 = ad194 := (by injection e194)
            (try simp only [show (1 : Int).toNat = 1 from rfl, Nat.reduceMul, Nat.reduceEqDiff, Go.Addr.add, ↓reduceIte] at hx194_0)
            have qi194 : (1 < l1.length) = True := eq_true (by omega)
            (try rw [show ((1 : Int)).toNat = 1 from rfl] at hx194_0)
            replace p194 := eq_true p194
            replace q194 := eq_true q194
            go_enter Try.func142, Try.ntmps142
            go_wp2
            repeat (go_quiet (fail); try go_wp2)
            go_ret2
            exact ⟨by first | rfl | (simp; done) | (simp [*]; done), by repeat (first | exact Drawn0.refl _ | apply Drawn0.step)⟩
          · rw [if_neg c10] at H
            exact absurd H (by simp)
        · rw [if_neg c9] at H
          exact absurd H (by simp)
      · rw [if_neg c8] at H
        have c8b0 : (a0 == 5) = false := beq_eq_false_iff_ne.mpr c8
        have c8b1 : (a0 != 5) = true := bne_iff_ne.mpr c8
        by_cases c11 : a0 = 6
        · rw [if_pos c11] at H
          have c11b0 : (a0 == 6) = true := beq_iff_eq.mpr c11
          have c11b1 : (a0 != 6) = false := bne_eq_false_iff_eq.mpr c11
          clear c11
          by_cases c12 : 0 < (l1.length : Int)
          · rw [if_pos c12] at H
            have c12b0 : decide (0 < (l1.length : Int)) = true := decide_eq_true c12
            have c12b1 : decide (0 < l1.length) = true := decide_eq_true (by omega)
            clear c12
            by_cases c13 : 1 < (l1.length : Int)
            · rw [if_pos c13] at H
              have c13b0 : decide (1 < (l1.length : Int)) = true := decide_eq_true c13
              have c13b1 : decide (1 < l1.length) = true := decide_eq_true (by omega)
              clear c13
              simp only [Option.some.injEq, Prod.mk.injEq] at H
              obtain ⟨rfl, rfl⟩ := H
              have p195 : 0 ≤ (0 : Int) := (by omega)
              have q195 : 0 < (l1.length : Int) := of_decide_eq_true (by first | (with_reducible assumption) | assumption)
              obtain ⟨ad195, e195, hx195_0⟩ := Kd.at_int HR1.out 0 p195 q195
              cases e195
              have qi195 : (0 < l1.length) = True := eq_true (by omega)
              (try rw [show ((0 : Int)).toNat = 0 from rfl] at hx195_0)
              (try rw [Addr.add_zero'] at hx195_0)
              replace p195 := eq_true p195
              replace q195 := eq_true q195
              have p196 : 0 ≤ (1 : Int) := (by omega)
              have q196 : 1 < (l1.length : Int) := of_decide_eq_true (by first | (with_reducible assumption) | assumption)
              obtain ⟨ad196, e196, hx196_0⟩ := Kd.at_int HR1.out 1 p196 q196
              obtain rfl : ad195 = ad196 := (by injection e196)
              (try simp only [show (1 : Int).toNat = 1 from rfl, Nat.reduceMul, Nat.reduceEqDiff, Go.Addr.add, ↓reduceIte] at hx196_0)
              have qi196 : (1 < l1.length) = True := eq_true (by omega)
              (try rw [show ((1 : Int)).toNat = 1 from rfl] at hx196_0)
              replace p196 := eq_true p196
              replace q196 := eq_true q196
              go_enter Try.func142, Try.ntmps142
              go_wp2
              repeat (go_quiet (fail); try go_wp2)
              go_ret2
              exact ⟨by first | rfl | (simp; done) | (simp [*]; done), by repeat (first | exact Drawn0.refl _ | apply Drawn0.step)⟩
            · rw [if_neg c13] at H
              exact absurd H (by simp)
          · rw [if_neg c12] at H
            exact absurd H (by simp)
        · rw [if_neg c11] at H
          have c11b0 : (a0 == 6) = false := beq_eq_false_iff_ne.mpr c11
          have c11b1 : (a0 != 6) = true := bne_iff_ne.mpr c11
          by_cases c14 : a0 = 7
          · rw [if_pos c14] at H
            have c14b0 : (a0 == 7) = true := beq_iff_eq.mpr c14
            have c14b1 : (a0 != 7) = false := bne_eq_false_iff_eq.mpr c14
            clear c14
            by_cases c15 : 0 < (l1.length : Int)
            · rw [if_pos c15] at H
              have c15b0 : decide (0 < (l1.length : Int)) = true := decide_eq_true c15
              have c15b1 : decide (0 < l1.length) = true := decide_eq_true (by omega)
              clear c15
              by_cases c16 : 1 < (l1.length : Int)
              · rw [if_pos c16] at H
                have c16b0 : decide (1 < (l1.length : Int)) = true := decide_eq_true c16
                have c16b1 : decide (1 < l1.length) = true := decide_eq_true (by omega)
                clear c16
                obtain ⟨ji17, hji17⟩ : ∃ j_ : Int, (Int.tmod (IntKind.u64.wrap (rd l1 1)) 64) = j_ := ⟨_, rfl⟩
                replace H : (if 0 ≤ (ji17) then (some (shl .i64 (rd l1 0) (ji17), false)) else (none)) = some (r1, r2) := by first | (rw [hji17] at H; exact H) | (simp only [hji17] at H ⊢; exact H)
                by_cases c18 : 0 ≤ (ji17)
                · rw [if_pos c18] at H
                  have c18b0 := eq_true c18
                  have c18b1 : decide (0 ≤ (ji17)) = true := decide_eq_true c18
                  clear c18
                  obtain ⟨ji19, hji19⟩ : ∃ j_ : Int, (shl .i64 (rd l1 0) (ji17)) = j_ := ⟨_, rfl⟩
                  replace H : (some (ji19, false)) = some (r1, r2) := by first | (rw [hji19] at H; exact H) | (simp only [hji19] at H ⊢; exact H)
                  have hji19_ : (IntKind.i64.wrap ((rd l1 0) * 2 ^ min (ji17).toNat 64)) = ji19 := hji19
                  have hji19z : (ji17) ≤ 64 → (IntKind.i64.wrap ((rd l1 0) * 2 ^ (ji17).toNat)) = ji19 := shl_small hji19
                  have hji19y : (wrap64 ((rd l1 0) * 2 ^ min (ji17).toNat 64)) = ji19 := (i64_w _).symm.trans hji19_
                  have hji19x : (ji17) ≤ 64 → (wrap64 ((rd l1 0) * 2 ^ (ji17).toNat)) = ji19 := fun h_ => (i64_w _).symm.trans (hji19z h_)
                  simp only [Option.some.injEq, Prod.mk.injEq] at H
                  obtain ⟨rfl, rfl⟩ := H
                  have p197 : 0 ≤ (0 : Int) := (by omega)
                  have q197 : 0 < (l1.length : Int) := of_decide_eq_true (by first | (with_reducible assumption) | assumption)
                  obtain ⟨ad197, e197, hx197_0⟩ := Kd.at_int HR1.out 0 p197 q197
                  cases e197
                  have qi197 : (0 < l1.length) = True := eq_true (by omega)
                  (try rw [show ((0 : Int)).toNat = 0 from rfl] at hx197_0)
                  (try rw [Addr.add_zero'] at hx197_0)
                  replace p197 := eq_true p197
                  replace q197 := eq_true q197
                  have p198 : 0 ≤ (1 : Int) := (by omega)
                  have q198 : 1 < (l1.length : Int) := of_decide_eq_true (by first | (with_reducible assumption) | assumption)
                  obtain ⟨ad198, e198, hx198_0⟩ := Kd.at_int HR1.out 1 p198 q198
                  obtain rfl : ad197 = ad198 := (by injection e198)
                  (try simp only [show (1 : Int).toNat = 1 from rfl, Nat.reduceMul, Nat.reduceEqDiff, Go.Addr.add, ↓reduceIte] at hx198_0)
                  have qi198 : (1 < l1.length) = True := eq_true (by omega)
                  (try rw [show ((1 : Int)).toNat = 1 from rfl] at hx198_0)
                  replace p198 := eq_true p198
                  replace q198 := eq_true q198
                  go_enter Try.func142, Try.ntmps142
                  go_wp2
                  repeat (go_quiet (fail); try go_wp2)
                  go_ret2
                  exact ⟨by first | rfl | (simp; done) | (simp only [← hji17, ← hji19] <;> (first | rfl | simp)) | (simp [*]; done), by repeat (first | exact Drawn0.refl _ | apply Drawn0.step)⟩
                · rw [if_neg c18] at H
                  exact absurd H (by simp)
              · rw [if_neg c16] at H
                exact absurd H (by simp)
            · rw [if_neg c15] at H
              exact absurd H (by simp)
          · rw [if_neg c14] at H
            have c14b0 : (a0 == 7) = false := beq_eq_false_iff_ne.mpr c14
            have c14b1 : (a0 != 7) = true := bne_iff_ne.mpr c14
            by_cases c20 : a0 = 8
            · rw [if_pos c20] at H
              have c20b0 : (a0 == 8) = true := beq_iff_eq.mpr c20
              have c20b1 : (a0 != 8) = false := bne_eq_false_iff_eq.mpr c20
              clear c20
              by_cases c21 : 1 < (l1.length : Int)
              · rw [if_pos c21] at H
                have c21b0 : decide (1 < (l1.length : Int)) = true := decide_eq_true c21
                have c21b1 : decide (1 < l1.length) = true := decide_eq_true (by omega)
                clear c21
                by_cases c22 : (rd l1 1) = 0
                · rw [if_pos c22] at H
                  have c22b0 : ((rd l1 1) == 0) = true := beq_iff_eq.mpr c22
                  have c22b1 : ((rd l1 1) != 0) = false := bne_eq_false_iff_eq.mpr c22
                  clear c22
                  simp only [Option.some.injEq, Prod.mk.injEq] at H
                  obtain ⟨rfl, rfl⟩ := H
                  have p199 : 0 ≤ (1 : Int) := (by omega)
                  have q199 : 1 < (l1.length : Int) := of_decide_eq_true (by first | (with_reducible assumption) | assumption)
                  obtain ⟨ad199, e199, hx199_0⟩ := Kd.at_int HR1.out 1 p199 q199
                  cases e199
                  (try simp only [show (1 : Int).toNat = 1 from rfl, Nat.reduceMul, Nat.reduceEqDiff, Go.Addr.add, ↓reduceIte] at hx199_0)
                  have qi199 : (1 < l1.length) = True := eq_true (by omega)
                  (try rw [show ((1 : Int)).toNat = 1 from rfl] at hx199_0)
                  replace p199 := eq_true p199
                  replace q199 := eq_true q199
                  go_enter Try.func142, Try.ntmps142
                  go_wp2
                  repeat (go_quiet (fail); try go_wp2)
                  go_ret2
                  exact ⟨by first | rfl | (simp; done) | (simp [*]; done), by repeat (first | exact Drawn0.refl _ | apply Drawn0.step)⟩
                · rw [if_neg c22] at H
                  have c22b0 : ((rd l1 1) == 0) = false := beq_eq_false_iff_ne.mpr c22
                  have c22b1 : ((rd l1 1) != 0) = true := bne_iff_ne.mpr c22
                  by_cases c23 : 0 < (l1.length : Int)
                  · rw [if_pos c23] at H
                    have c23b0 : decide (0 < (l1.length : Int)) = true := decide_eq_true c23
                    have c23b1 : decide (0 < l1.length) = true := decide_eq_true (by omega)
                    clear c23
                    simp only [Option.some.injEq, Prod.mk.injEq] at H
                    obtain ⟨rfl, rfl⟩ := H
                    have p199 : 0 ≤ (1 : Int) := (by omega)
                    have q199 : 1 < (l1.length : Int) := of_decide_eq_true (by first | (with_reducible assumption) | assumption)
                    obtain ⟨ad199, e199, hx199_0⟩ := Kd.at_int HR1.out 1 p199 q199
                    cases e199
                    (try simp only [show (1 : Int).toNat = 1 from rfl, Nat.reduceMul, Nat.reduceEqDiff, Go.Addr.add, ↓reduceIte] at hx199_0)
                    have qi199 : (1 < l1.length) = True := eq_true (by omega)
                    (try rw [show ((1 : Int)).toNat = 1 from rfl] at hx199_0)
                    replace p199 := eq_true p199
                    replace q199 := eq_true q199
                    have p200 : 0 ≤ (0 : Int) := (by omega)
                    have q200 : 0 < (l1.length : Int) := of_decide_eq_true (by first | (with_reducible assumption) | assumption)
                    obtain ⟨ad200, e200, hx200_0⟩ := Kd.at_int HR1.out 0 p200 q200
                    obtain rfl : ad199 = ad200 := (by injection e200)
                    have qi200 : (0 < l1.length) = True := eq_true (by omega)
                    (try rw [show ((0 : Int)).toNat = 0 from rfl] at hx200_0)
                    (try rw [Addr.add_zero'] at hx200_0)
                    replace p200 := eq_true p200
                    replace q200 := eq_true q200
                    have p201 : 0 ≤ (1 : Int) := (by omega)
                    have q201 : 1 < (l1.length : Int) := of_decide_eq_true (by first | (with_reducible assumption) | assumption)
                    obtain ⟨ad201, e201, hx201_0⟩ := Kd.at_int HR1.out 1 p201 q201
                    obtain rfl : ad199 = ad201 := (by injection e201)
                    (try simp only [show (1 : Int).toNat = 1 from rfl, Nat.reduceMul, Nat.reduceEqDiff, Go.Addr.add, ↓reduceIte] at hx201_0)
                    have qi201 : (1 < l1.length) = True := eq_true (by omega)
                    (try rw [show ((1 : Int)).toNat = 1 from rfl] at hx201_0)
                    replace p201 := eq_true p201
                    replace q201 := eq_true q201
                    go_enter Try.func142, Try.ntmps142
                    go_wp2
                    repeat (go_quiet (fail); try go_wp2)
                    go_ret2
                    exact ⟨by first | rfl | (simp; done) | (simp [*]; done), by repeat (first | exact Drawn0.refl _ | apply Drawn0.step)⟩
                  · rw [if_neg c23] at H
                    exact absurd H (by simp)
              · rw [if_neg c21] at H
                exact absurd H (by simp)
            · rw [if_neg c20] at H
              have c20b0 : (a0 == 8) = false := beq_eq_false_iff_ne.mpr c20
              have c20b1 : (a0 != 8) = true := bne_iff_ne.mpr c20
              by_cases c24 : a0 = 9
              · rw [if_pos c24] at H
                have c24b0 : (a0 == 9) = true := beq_iff_eq.mpr c24
                have c24b1 : (a0 != 9) = false := bne_eq_false_iff_eq.mpr c24
                clear c24
                by_cases c25 : 0 < (l1.length : Int)
                · rw [if_pos c25] at H
                  have c25b0 : decide (0 < (l1.length : Int)) = true := decide_eq_true c25
                  have c25b1 : decide (0 < l1.length) = true := decide_eq_true (by omega)
                  clear c25
                  by_cases c26 : 1 < (l1.length : Int)
                  · rw [if_pos c26] at H
                    have c26b0 : decide (1 < (l1.length : Int)) = true := decide_eq_true c26
                    have c26b1 : decide (1 < l1.length) = true := decide_eq_true (by omega)
                    clear c26
                    replace H := Option.bind_eq_some_iff.mp H
                    obtain ⟨t204, A270, H⟩ := H
                    replace H : (some (t204, false)) = some (r1, r2) := H
                    have A27 := Aside0.mk A270
                    clear A270
                    simp only [Option.some.injEq, Prod.mk.injEq] at H
                    obtain ⟨rfl, rfl⟩ := H
                    have p202 : 0 ≤ (0 : Int) := (by omega)
                    have q202 : 0 < (l1.length : Int) := of_decide_eq_true (by first | (with_reducible assumption) | assumption)
                    obtain ⟨ad202, e202, hx202_0⟩ := Kd.at_int HR1.out 0 p202 q202
                    cases e202
                    have qi202 : (0 < l1.length) = True := eq_true (by omega)
                    (try rw [show ((0 : Int)).toNat = 0 from rfl] at hx202_0)
                    (try rw [Addr.add_zero'] at hx202_0)
                    replace p202 := eq_true p202
                    replace q202 := eq_true q202
                    have p203 : 0 ≤ (1 : Int) := (by omega)
                    have q203 : 1 < (l1.length : Int) := of_decide_eq_true (by first | (with_reducible assumption) | assumption)
                    obtain ⟨ad203, e203, hx203_0⟩ := Kd.at_int HR1.out 1 p203 q203
                    obtain rfl : ad202 = ad203 := (by injection e203)
                    (try simp only [show (1 : Int).toNat = 1 from rfl, Nat.reduceMul, Nat.reduceEqDiff, Go.Addr.add, ↓reduceIte] at hx203_0)
                    have qi203 : (1 < l1.length) = True := eq_true (by omega)
                    (try rw [show ((1 : Int)).toNat = 1 from rfl] at hx203_0)
                    replace p203 := eq_true p203
                    replace q203 := eq_true q203
                    go_enter Try.func142, Try.ntmps142
                    go_wp2_with (first | (go_at_call 153; (with_reducible refine (impl_oneIf.calls ((rd l1 0) == (rd l1 1)) t204 _ A27.out).mono ?_); rintro e w' ⟨rfl, ⟨nd, rfl⟩⟩; (try first | exact ⟨rfl, _, World.drewN_drewN _ _ _⟩ | exact ⟨rfl, _, Eq.trans (World.drewN_drewN _ _ _) (congrArg (World.drewN _) (Nat.add_assoc _ _ _))⟩)))
                    repeat (go_quiet (first | (go_at_call 153; (with_reducible refine (impl_oneIf.calls ((rd l1 0) == (rd l1 1)) t204 _ A27.out).mono ?_); rintro e w' ⟨rfl, ⟨nd, rfl⟩⟩; (try first | exact ⟨rfl, _, World.drewN_drewN _ _ _⟩ | exact ⟨rfl, _, Eq.trans (World.drewN_drewN _ _ _) (congrArg (World.drewN _) (Nat.add_assoc _ _ _))⟩))); try go_wp2_with (first | (go_at_call 153; (with_reducible refine (impl_oneIf.calls ((rd l1 0) == (rd l1 1)) t204 _ A27.out).mono ?_); rintro e w' ⟨rfl, ⟨nd, rfl⟩⟩; (try first | exact ⟨rfl, _, World.drewN_drewN _ _ _⟩ | exact ⟨rfl, _, Eq.trans (World.drewN_drewN _ _ _) (congrArg (World.drewN _) (Nat.add_assoc _ _ _))⟩))))
                    go_ret2
                    exact ⟨by first | rfl | (simp; done) | (simp [*]; done), by repeat (first | exact Drawn0.refl _ | apply Drawn0.step)⟩
                  · rw [if_neg c26] at H
                    exact absurd H (by simp)
                · rw [if_neg c25] at H
                  exact absurd H (by simp)
              · rw [if_neg c24] at H
                have c24b0 : (a0 == 9) = false := beq_eq_false_iff_ne.mpr c24
                have c24b1 : (a0 != 9) = true := bne_iff_ne.mpr c24
                by_cases c28 : a0 = 10
                · rw [if_pos c28] at H
                  have c28b0 : (a0 == 10) = true := beq_iff_eq.mpr c28
                  have c28b1 : (a0 != 10) = false := bne_eq_false_iff_eq.mpr c28
                  clear c28
                  by_cases c29 : 0 < (l1.length : Int)
                  · rw [if_pos c29] at H
                    have c29b0 : decide (0 < (l1.length : Int)) = true := decide_eq_true c29
                    have c29b1 : decide (0 < l1.length) = true := decide_eq_true (by omega)
                    clear c29
                    by_cases c30 : 1 < (l1.length : Int)
                    · rw [if_pos c30] at H
                      have c30b0 : decide (1 < (l1.length : Int)) = true := decide_eq_true c30
                      have c30b1 : decide (1 < l1.length) = true := decide_eq_true (by omega)
                      clear c30
                      replace H := Option.bind_eq_some_iff.mp H
                      obtain ⟨t207, A310, H⟩ := H
                      replace H : (some (t207, false)) = some (r1, r2) := H
                      have A31 := Aside0.mk A310
                      clear A310
                      simp only [Option.some.injEq, Prod.mk.injEq] at H
                      obtain ⟨rfl, rfl⟩ := H
                      have p205 : 0 ≤ (0 : Int) := (by omega)
                      have q205 : 0 < (l1.length : Int) := of_decide_eq_true (by first | (with_reducible assumption) | assumption)
                      obtain ⟨ad205, e205, hx205_0⟩ := Kd.at_int HR1.out 0 p205 q205
                      cases e205
                      have qi205 : (0 < l1.length) = True := eq_true (by omega)
                      (try rw [show ((0 : Int)).toNat = 0 from rfl] at hx205_0)
                      (try rw [Addr.add_zero'] at hx205_0)
                      replace p205 := eq_true p205
                      replace q205 := eq_true q205
                      have p206 : 0 ≤ (1 : Int) := (by omega)
                      have q206 : 1 < (l1.length : Int) := of_decide_eq_true (by first | (with_reducible assumption) | assumption)
                      obtain ⟨ad206, e206, hx206_0⟩ := Kd.at_int HR1.out 1 p206 q206
                      obtain rfl : ad205 = ad206 := (by injection e206)
                      (try simp only [show (1 : Int).toNat = 1 from rfl, Nat.reduceMul, Nat.reduceEqDiff, Go.Addr.add, ↓reduceIte] at hx206_0)
                      have qi206 : (1 < l1.length) = True := eq_true (by omega)
                      (try rw [show ((1 : Int)).toNat = 1 from rfl] at hx206_0)
                      replace p206 := eq_true p206
                      replace q206 := eq_true q206
                      go_enter Try.func142, Try.ntmps142
                      go_wp2_with (first | (go_at_call 153; (with_reducible refine (impl_oneIf.calls (decide ((rd l1 0) < (rd l1 1))) t207 _ A31.out).mono ?_); rintro e w' ⟨rfl, ⟨nd, rfl⟩⟩; (try first | exact ⟨rfl, _, World.drewN_drewN _ _ _⟩ | exact ⟨rfl, _, Eq.trans (World.drewN_drewN _ _ _) (congrArg (World.drewN _) (Nat.add_assoc _ _ _))⟩)))
                      repeat (go_quiet (first | (go_at_call 153; (with_reducible refine (impl_oneIf.calls (decide ((rd l1 0) < (rd l1 1))) t207 _ A31.out).mono ?_); rintro e w' ⟨rfl, ⟨nd, rfl⟩⟩; (try first | exact ⟨rfl, _, World.drewN_drewN _ _ _⟩ | exact ⟨rfl, _, Eq.trans (World.drewN_drewN _ _ _) (congrArg (World.drewN _) (Nat.add_assoc _ _ _))⟩))); try go_wp2_with (first | (go_at_call 153; (with_reducible refine (impl_oneIf.calls (decide ((rd l1 0) < (rd l1 1))) t207 _ A31.out).mono ?_); rintro e w' ⟨rfl, ⟨nd, rfl⟩⟩; (try first | exact ⟨rfl, _, World.drewN_drewN _ _ _⟩ | exact ⟨rfl, _, Eq.trans (World.drewN_drewN _ _ _) (congrArg (World.drewN _) (Nat.add_assoc _ _ _))⟩))))
                      go_ret2
                      exact ⟨by first | rfl | (simp; done) | (simp [*]; done), by repeat (first | exact Drawn0.refl _ | apply Drawn0.step)⟩
                    · rw [if_neg c30] at H
                      exact absurd H (by simp)
                  · rw [if_neg c29] at H
                    exact absurd H (by simp)
                · rw [if_neg c28] at H
                  have c28b0 : (a0 == 10) = false := beq_eq_false_iff_ne.mpr c28
                  have c28b1 : (a0 != 10) = true := bne_iff_ne.mpr c28
                  by_cases c32 : 0 < (l1.length : Int)
                  · rw [if_pos c32] at H
                    have c32b0 : decide (0 < (l1.length : Int)) = true := decide_eq_true c32
                    have c32b1 : decide (0 < l1.length) = true := decide_eq_true (by omega)
                    clear c32
                    by_cases c33 : (rd l1 0) = 0
                    · rw [if_pos c33] at H
                      have c33b0 : ((rd l1 0) == 0) = true := beq_iff_eq.mpr c33
                      have c33b1 : ((rd l1 0) != 0) = false := bne_eq_false_iff_eq.mpr c33
                      clear c33
                      by_cases c34 : 2 < (l1.length : Int)
                      · rw [if_pos c34] at H
                        have c34b0 : decide (2 < (l1.length : Int)) = true := decide_eq_true c34
                        have c34b1 : decide (2 < l1.length) = true := decide_eq_true (by omega)
                        clear c34
                        simp only [Option.some.injEq, Prod.mk.injEq] at H
                        obtain ⟨rfl, rfl⟩ := H
                        have p208 : 0 ≤ (0 : Int) := (by omega)
                        have q208 : 0 < (l1.length : Int) := of_decide_eq_true (by first | (with_reducible assumption) | assumption)
                        obtain ⟨ad208, e208, hx208_0⟩ := Kd.at_int HR1.out 0 p208 q208
                        cases e208
                        have qi208 : (0 < l1.length) = True := eq_true (by omega)
                        (try rw [show ((0 : Int)).toNat = 0 from rfl] at hx208_0)
                        (try rw [Addr.add_zero'] at hx208_0)
                        replace p208 := eq_true p208
                        replace q208 := eq_true q208
                        have p209 : 0 ≤ (2 : Int) := (by omega)
                        have q209 : 2 < (l1.length : Int) := of_decide_eq_true (by first | (with_reducible assumption) | assumption)
                        obtain ⟨ad209, e209, hx209_0⟩ := Kd.at_int HR1.out 2 p209 q209
                        obtain rfl : ad208 = ad209 := (by injection e209)
                        (try simp only [show (2 : Int).toNat = 2 from rfl, Nat.reduceMul, Nat.reduceEqDiff, Go.Addr.add, ↓reduceIte] at hx209_0)
                        have qi209 : (2 < l1.length) = True := eq_true (by omega)
                        (try rw [show ((2 : Int)).toNat = 2 from rfl] at hx209_0)
                        replace p209 := eq_true p209
                        replace q209 := eq_true q209
                        go_enter Try.func142, Try.ntmps142
                        go_wp2
                        repeat (go_quiet (fail); try go_wp2)
                        go_ret2
                        exact ⟨by first | rfl | (simp; done) | (simp [*]; done), by repeat (first | exact Drawn0.refl _ | apply Drawn0.step)⟩
                      · rw [if_neg c34] at H
                        exact absurd H (by simp)
                    · rw [if_neg c33] at H
                      have c33b0 : ((rd l1 0) == 0) = false := beq_eq_false_iff_ne.mpr c33
                      have c33b1 : ((rd l1 0) != 0) = true := bne_iff_ne.mpr c33
                      by_cases c35 : 1 < (l1.length : Int)
                      · rw [if_pos c35] at H
                        have c35b0 : decide (1 < (l1.length : Int)) = true := decide_eq_true c35
                        have c35b1 : decide (1 < l1.length) = true := decide_eq_true (by omega)
                        clear c35
                        simp only [Option.some.injEq, Prod.mk.injEq] at H
                        obtain ⟨rfl, rfl⟩ := H
                        have p208 : 0 ≤ (0 : Int) := (by omega)
                        have q208 : 0 < (l1.length : Int) := of_decide_eq_true (by first | (with_reducible assumption) | assumption)
                        obtain ⟨ad208, e208, hx208_0⟩ := Kd.at_int HR1.out 0 p208 q208
                        cases e208
                        have qi208 : (0 < l1.length) = True := eq_true (by omega)
                        (try rw [show ((0 : Int)).toNat = 0 from rfl] at hx208_0)
                        (try rw [Addr.add_zero'] at hx208_0)
                        replace p208 := eq_true p208
                        replace q208 := eq_true q208
                        have p210 : 0 ≤ (1 : Int) := (by omega)
                        have q210 : 1 < (l1.length : Int) := of_decide_eq_true (by first | (with_reducible assumption) | assumption)
                        obtain ⟨ad210, e210, hx210_0⟩ := Kd.at_int HR1.out 1 p210 q210
                        obtain rfl : ad208 = ad210 := (by injection e210)
                        (try simp only [show (1 : Int).toNat = 1 from rfl, Nat.reduceMul, Nat.reduceEqDiff, Go.Addr.add, ↓reduceIte] at hx210_0)
                        have qi210 : (1 < l1.length) = True := eq_true (by omega)
                        (try rw [show ((1 : Int)).toNat = 1 from rfl] at hx210_0)
                        replace p210 := eq_true p210
                        replace q210 := eq_true q210
                        go_enter Try.func142, Try.ntmps142
                        go_wp2
                        repeat (go_quiet (fail); try go_wp2)
                        go_ret2
                        exact ⟨by first | rfl | (simp; done) | (simp [*]; done), by repeat (first | exact Drawn0.refl _ | apply Drawn0.step)⟩
                      · rw [if_neg c35] at H
                        exact absurd H (by simp)
                  · rw [if_neg c32] at H
                    exact absurd H (by simp)

end Go.Proofs.Ytlneknaiimmfmaa.PFnExactEvalTerm
