/- Functions of the program and of the reference as plain Lean functions, and what their calls come to; partly printed by a program, partly by hand; no condition beyond what each theorem says. -/
import Derived.Test.YtlneknaiimmfmaaPFnExactSureVarsx0
import Derived.Test.YtlneknaiimmfmaaPFnExactSureVarsx4
namespace Go.Proofs.Ytlneknaiimmfmaa.PFnExactSureVars
open Go.RowKit Go.Proofs.YtlneknaiimmfmaaW.PrintWords Go.Proofs.YtlneknaiimmfmaaW.PrintLast Go.Proofs.YtlneknaiimmfmaaW.PrintMore
attribute [local go_sem] max2_int min2_int max_two min_two max_three min_three max_four min_four   -- for this text's walks alone
set_option linter.unusedVariables false
set_option linter.unusedSimpArgs false

/-! ### impl.trees: function 83, by hand -/
theorem arityC (op : Int) (w : World) : Calls Try.prog 108 #[.int .i64 op] w fun e w' => e = .returned (.int .i64 (Tree.arity op)) ∧ Drawn0 w w' := by
  refine impl_arity.calls 1 op _ w ?_
  unfold impl_arity.f Tree.arity
  by_cases h1 : op = 1
  · subst h1; rfl
  · rw [if_neg h1]
    simp only [impl_arity.j0]
    by_cases h2 : op = 2
    · subst h2; rfl
    · rw [if_neg (by simpa using h2), if_neg (by omega : ¬ (op = 1 ∨ op = 2))]
      by_cases h3 : op = 3
      · rw [if_pos h3, if_pos h3]
      · rw [if_neg h3, if_neg h3]
        by_cases h4 : op = 11
        · rw [if_pos h4, if_pos h4]
        · rw [if_neg h4, if_neg h4]
theorem numOKC (op n : Int) (w : World) : Calls Try.prog 116 #[.int .i64 op, .int .i64 n] w fun e w' => e = .returned (.bool (Tree.numOK op n)) ∧ Drawn0 w w' := by
  refine impl_numOK.calls op n _ w ?_
  unfold impl_numOK.f Tree.numOK impl_isOp.f impl_within.f
  by_cases h1 : op = 1
  · rw [if_pos h1, if_pos h1]
  · rw [if_neg h1, if_neg h1]
    by_cases h2 : op = 2
    · rw [if_pos h2, if_pos h2]
      by_cases h3 : n ≥ 0
      · rw [if_pos h3]; congr 1; rw [decide_eq_decide]; omega
      · rw [if_neg h3, decide_eq_false (by omega)]
    · rw [if_neg h2, if_neg h2]
      by_cases h3 : op ≥ 1
      · rw [if_pos h3]
        by_cases h4 : op ≤ 11
        · rw [decide_eq_true h4, Option.bind_some, Option.bind_some, if_pos rfl]
          congr 1
          rw [Bool.eq_iff_iff]; simp; omega
        · rw [decide_eq_false h4, decide_eq_false (by omega)]; rfl
      · rw [if_neg h3, decide_eq_false (by omega)]; rfl
theorem withinC (a b c : Int) (w : World) : Calls Try.prog 84 #[.int .i64 a, .int .i64 b, .int .i64 c] w fun e w' => e = .returned (.bool (decide (b ≤ a ∧ a ≤ c))) ∧ Drawn0 w w' := by
  refine impl_within.calls a b c _ w ?_
  unfold impl_within.f
  by_cases h : a ≥ b
  · rw [if_pos h]; congr 1; rw [decide_eq_decide]; omega
  · rw [if_neg h, decide_eq_false (by omega)]
/-- A list of nodes as pairs. -/
def toP (l : List S87) : List (Int × Int) := l.map fun x => (x.f0, x.f1)
theorem toP_len (l : List S87) : (toP l).length = l.length := List.length_map _
theorem build_succ (l : List S87) (k : Nat) (hk : k < l.length) {s0 s : List Tree.Tr × List Tree.Tr} (h : Tree.build (toP (l.take k)) s0 = some s) : Tree.build (toP (l.take (k + 1))) s0 = Tree.step s ((l.getD k z87).f0, (l.getD k z87).f1) := by
  have e : l.take (k + 1) = l.take k ++ [l.getD k z87] := by
    rw [List.take_add_one, List.getD_eq_getElem?_getD, List.getElem?_eq_getElem hk]
    rfl
  rw [e]
  unfold toP at h ⊢
  rw [List.map_append, Tree.build_append, h]
  show (Tree.step s _).bind (Tree.build []) = _
  cases Tree.step s ((l.getD k z87).f0, (l.getD k z87).f1) <;> rfl
theorem build_fail (l : List S87) (k : Nat) (hk : k < l.length) {s0 s : List Tree.Tr × List Tree.Tr} (h : Tree.build (toP (l.take k)) s0 = some s) (hf : Tree.step s ((l.getD k z87).f0, (l.getD k z87).f1) = none) : Tree.build (toP l) s0 = none := by
  have h1 := build_succ l k hk h
  have e : toP l = toP (l.take (k + 1)) ++ toP (l.drop (k + 1)) := by unfold toP; rw [← List.map_append, List.take_append_drop]
  rw [e, Tree.build_append, h1, hf]
  rfl
theorem treesOf_none (l : List S87) (h : Tree.build (toP l) ([], []) = none) : Tree.treesOf (toP l) = none := by
  unfold Tree.treesOf
  split
  · rw [h]; rfl
  · rfl
/-- What trees hands back. -/
def TreesRes (w w' : World) (r : Option (List Tree.Tr)) (v : Value) : Prop :=
  match r with
  | none => v = .slice none 0 0
  | some Ts => ∃ az : List Addr, 0 < Ts.length ∧ Kd.R Tree.ptrK 91 w' w.heap.size (fun _ => True) v az ∧ Tree.Trees w' (fun k => w.heap.size ≤ k ∧ some k ≠ v.ownBlock) Ts az
set_option maxHeartbeats 8000000 in
set_option maxRecDepth 100000 in
theorem impl_trees.calls (A0 : Option Addr) (c0 : Nat) (l0 : List S87) (w : World) (hr0 : Kd.C k87 w A0 l0.length l0) (hc0 : l0.length ≤ c0) :
    Calls Try.prog 83 #[.slice A0 l0.length c0] w fun e w' => ∃ v : Value, e = .returned v ∧ Aside0 (TreesRes w w' (Tree.treesOf (toP l0)) v) ∧ Below w.heap.size w w' := by
  have HR0 := Aside0.mk hr0
  have HC0 := Aside0.mk hc0
  clear hr0 hc0
  have HB := Aside0.mk (Below.refl w.heap.size w)
  by_cases hlen : 1 ≤ (l0.length : Int) ∧ (l0.length : Int) ≤ 40
  · have hW := fun W => withinC (l0.length : Int) 1 40 W
    rw [decide_eq_true hlen] at hW
    have HLEN := Aside0.mk hlen
    clear hlen
    go_enter Try.func83, Try.ntmps83
    go_wp2_with (first | (go_at_call 84; refine (hW _).mono ?_; rintro e w' ⟨rfl, ⟨q, rfl⟩⟩) | ((with_reducible refine gate_dst (N := 13) rfl ?_); refine Kd.R_lit Tree.ptrK _ 91 ?hg (N := 13) ?hd (xs := ([] : List Addr)) (inner := []) (ok := fun _ => True) (okp := fun _ => True) ?hr ?hp (fun _ hk => hk) trivial (Below.refl _ _) (Nat.le_refl _) (by simp) ?_; (case hd => rfl); (case hg => rfl); (case hr => first | (go_simp; done) | (go_simp; rfl)); (case hp => exact (Reps.none _ _)); intro v13 w13 ho13 hb13 hg_ hnew_; clear hg_ hnew_; have HO13 := Aside0.mk ho13; have HB13 := Aside0.mk hb13; clear ho13 hb13) | ((with_reducible refine gate_dst (N := 14) rfl ?_); refine Kd.R_lit Tree.ptrK _ 91 ?hg (N := 14) ?hd (xs := ([] : List Addr)) (inner := []) (ok := fun _ => True) (okp := fun _ => True) ?hr ?hp (fun _ hk => hk) trivial (Below.refl _ _) (Nat.le_refl _) (by simp) ?_; (case hd => rfl); (case hg => rfl); (case hr => first | (go_simp; done) | (go_simp; rfl)); (case hp => exact (Reps.none _ _)); intro v14 w14 ho14 hb14 hg14_ hnew14_; clear hg14_ hnew14_; have HO14 := Aside0.mk ho14; have HB14 := Aside0.mk hb14; clear ho14 hb14))
    go_loopg [3, 4, 17] l0.length (fun gg v3 v4 s17 wr => ∃ x : Int, s17 = .int .i64 x ∧ Aside0 (0 ≤ x ∧ x ≤ (l0.length : Int) ∧ l0.length - x.toNat ≤ gg ∧ ∃ s p o, Tree.build (toP (l0.take x.toNat)) ([], []) = some s ∧ Tree.St w wr v3 v4 s p o))
    case atStart =>
      refine ⟨0, rfl, ⟨by omega, by omega, by omega, ([], []), [], [], rfl, ?_⟩⟩
      have hb14 : Below w.heap.size w w14 := below_step (below_step (Below.refl _ _ |> fun h => pw_below_drewN h q) HB13.out) HB14.out
      have hs : w.heap.size ≤ w13.heap.size := HB13.out.size
      refine ⟨Kd.R_grown (Kd.R_lower HO13.out (Nat.le_refl _)) (Tree.grown_below HB14.out) (fun _ _ => by simp), Kd.R_lower HO14.out hs, fun k hk he => ?_, Tree.Trees.nil _, Tree.Trees.nil _, hb14⟩
      have h1 := Kd.R_lt HO13.out k hk
      have h2 := Kd.R_base HO14.out k he
      omega
    case round =>
      obtain ⟨x, rfl, A⟩ := hrel
      by_cases c2 : x < (l0.length : Int)
      · obtain ⟨h0, hxl, hgg, s, p, o, hbuild, hst⟩ := A.out
        obtain ⟨A3, c3, rfl, hc3, hC3⟩ := Tree.row_slice hst.r3
        obtain ⟨A4, c4, rfl, hc4, hC4⟩ := Tree.row_slice hst.r4
        have HST := Aside0.mk hst
        have HBU := Aside0.mk hbuild
        have HGG := Aside0.mk hgg
        have HC3 := Aside0.mk hC3
        have HCC3 := Aside0.mk hc3
        clear A hst hbuild hgg hxl hc3 hC3 hc4 hC4
        obtain ⟨ad, e1, hx0, hx1⟩ := at_T87 HR0.out x h0 c2
        cases e1
        replace hx0 := (HST.out.hb.cell (World.block_lt_of_cell? w _ hx0)).trans hx0
        replace hx1 := (HST.out.hb.cell (World.block_lt_of_cell? w _ hx1)).trans hx1
        have hN := fun W => numOKC (rd_T87 l0 x).f0 (rd_T87 l0 x).f1 W
        have hA := fun W => arityC (rd_T87 l0 x).f0 W
        have H0 := Aside0.mk h0
        have C2 := Aside0.mk c2
        replace h0 := eq_true h0
        replace c2 := eq_true c2
        cases hnum : Tree.numOK (rd_T87 l0 x).f0 (rd_T87 l0 x).f1 with
        | false =>
          rw [hnum] at hN
          have HNUM := Aside0.mk hnum
          clear hnum
          go_wp2_with (first | ((with_reducible refine gate_dst (N := 6) rfl ?_); refine box_event ?hg (N := 6) ?hd (cs := #[.int .i64 0, .int .i64 0]) (t := 87) ?hr ?_; (case hd => rfl); (case hg => rfl); (case hr => first | (go_simp; done) | (go_simp; rfl)); intro gb hg w6 hbox hb; have HBOX := Aside0.mk hbox; have HBB := Aside0.mk hb; have HGB := Aside0.mk hg; have hcz7_0 : w6.cell? ⟨gb, 0, none⟩ = some (.int .i64 0) := (blk_cell HBOX.out 0).trans rfl; have hcz7_1 : w6.cell? ⟨gb, 1, none⟩ = some (.int .i64 0) := (blk_cell HBOX.out 1).trans rfl; have hfz7_0 := blk_frozen HBOX.out 0; have hfz7_1 := blk_frozen HBOX.out 1; clear hbox hb hg) | (go_at_call 116; refine (hN _).mono ?_; rintro e w' ⟨rfl, ⟨q, rfl⟩⟩) | (go_at_call 108; refine (hA _).mono ?_; rintro e w' ⟨rfl, ⟨q', rfl⟩⟩))
          go_ret
          have hgb : wr.heap.size ≤ gb := Nat.le_of_eq HGB.out.symm
          refine ⟨.slice none 0 0, rfl, ⟨?_⟩, below_step HST.out.hb (by repeat (first | exact HBB.out | apply pw_below_drewN | refine below_set ?_ hgb))⟩
          rw [treesOf_none l0 (build_fail l0 x.toNat (by have := H0.out; have := C2.out; omega) HBU.out (if_neg ?_))]
          · rfl
          · rintro ⟨h1, -⟩; exact absurd (HNUM.out.symm.trans h1) (by simp)
        | true =>
          rw [hnum] at hN
          have HNUM := Aside0.mk hnum
          clear hnum
          by_cases har : (p.length : Int) < Tree.arity (rd_T87 l0 x).f0
          · have HAR := Aside0.mk har
            replace har := eq_true har
            go_wp2_with (first | ((with_reducible refine gate_dst (N := 6) rfl ?_); refine box_event ?hg (N := 6) ?hd (cs := #[.int .i64 0, .int .i64 0]) (t := 87) ?hr ?_; (case hd => rfl); (case hg => rfl); (case hr => first | (go_simp; done) | (go_simp; rfl)); intro gb hg w6 hbox hb; have HBOX := Aside0.mk hbox; have HBB := Aside0.mk hb; have HGB := Aside0.mk hg; have hcz7_0 : w6.cell? ⟨gb, 0, none⟩ = some (.int .i64 0) := (blk_cell HBOX.out 0).trans rfl; have hcz7_1 : w6.cell? ⟨gb, 1, none⟩ = some (.int .i64 0) := (blk_cell HBOX.out 1).trans rfl; have hfz7_0 := blk_frozen HBOX.out 0; have hfz7_1 := blk_frozen HBOX.out 1; clear hbox hb hg) | (go_at_call 116; refine (hN _).mono ?_; rintro e w' ⟨rfl, ⟨q, rfl⟩⟩) | (go_at_call 108; refine (hA _).mono ?_; rintro e w' ⟨rfl, ⟨q', rfl⟩⟩))
            go_ret
            have hgb : wr.heap.size ≤ gb := Nat.le_of_eq HGB.out.symm
            refine ⟨.slice none 0 0, rfl, ⟨?_⟩, below_step HST.out.hb (by repeat (first | exact HBB.out | apply pw_below_drewN | refine below_set ?_ hgb))⟩
            rw [treesOf_none l0 (build_fail l0 x.toNat (by have := H0.out; have := C2.out; omega) HBU.out (if_neg ?_))]
            · rfl
            · rintro ⟨-, h2⟩; have h3 := HAR.out; rw [HST.out.t3.1] at h3; exact absurd h2 (by show ¬ _; exact Int.not_le.2 h3)
          · have HAR := Aside0.mk har
            replace har := eq_false har
            go_wp2_with (first | ((with_reducible refine gate_dst (N := 6) rfl ?_); refine box_event ?hg (N := 6) ?hd (cs := #[.int .i64 0, .int .i64 0]) (t := 87) ?hr ?_; (case hd => rfl); (case hg => rfl); (case hr => first | (go_simp; done) | (go_simp; rfl)); intro gb hg w6 hbox hb; have HBOX := Aside0.mk hbox; have HBB := Aside0.mk hb; have HGB := Aside0.mk hg; have hcz7_0 : w6.cell? ⟨gb, 0, none⟩ = some (.int .i64 0) := (blk_cell HBOX.out 0).trans rfl; have hcz7_1 : w6.cell? ⟨gb, 1, none⟩ = some (.int .i64 0) := (blk_cell HBOX.out 1).trans rfl; have hfz7_0 := blk_frozen HBOX.out 0; have hfz7_1 := blk_frozen HBOX.out 1; clear hbox hb hg) | (go_at_call 116; refine (hN _).mono ?_; rintro e w' ⟨rfl, ⟨q, rfl⟩⟩) | (go_at_call 108; refine (hA _).mono ?_; rintro e w' ⟨rfl, ⟨q', rfl⟩⟩))
            rename_i qa K9 aK9
            have hm0 : 0 ≤ Tree.arity (rd_T87 l0 x).f0 := (Tree.arity_range _).1
            obtain ⟨m, hm⟩ : ∃ m : Nat, m = p.length - (Tree.arity (rd_T87 l0 x).f0).toNat := ⟨_, rfl⟩
            have hmle : m ≤ p.length := by omega
            have hwr : wrap64 ((p.length : Int) - Tree.arity (rd_T87 l0 x).f0) = (m : Int) := by
              have := HC3.out.2.1
              have := HAR.out
              unfold wrap64
              omega
            rw [hwr]
            have hgb : wr.heap.size ≤ gb := Nat.le_of_eq HGB.out.symm
            have hb10 : Below wr.heap.size wr (((w6.setCell ⟨gb, 0, none⟩ (.int .i64 (rd_T87 l0 x).f0)).setCell ⟨gb, 1, none⟩ (.int .i64 (rd_T87 l0 x).f1)).drewN (q + qa + q')) := pw_below_drewN (below_set (below_set HBB.out hgb) hgb) _
            have hlt : gb < w6.heap.size := World.block_lt_of_cell? w6 _ hcz7_0
            have hc10 : (((w6.setCell ⟨gb, 0, none⟩ (.int .i64 (rd_T87 l0 x).f0)).setCell ⟨gb, 1, none⟩ (.int .i64 (rd_T87 l0 x).f1)).drewN (q + qa + q')).cell? ⟨gb, 0, none⟩ = some (.int .i64 (rd_T87 l0 x).f0) := by go_simp
            have hc11 : (((w6.setCell ⟨gb, 0, none⟩ (.int .i64 (rd_T87 l0 x).f0)).setCell ⟨gb, 1, none⟩ (.int .i64 (rd_T87 l0 x).f1)).drewN (q + qa + q')).cell? ⟨gb, 1, none⟩ = some (.int .i64 (rd_T87 l0 x).f1) := by go_simp
            generalize (((w6.setCell ⟨gb, 0, none⟩ (.int .i64 (rd_T87 l0 x).f0)).setCell ⟨gb, 1, none⟩ (.int .i64 (rd_T87 l0 x).f1)).drewN (q + qa + q')) = W10 at hb10 hc10 hc11 ⊢
            have HST10 := Aside0.mk (HST.out.below hb10)
            have HB10 := Aside0.mk hb10
            clear hb10 HST hcz7_0 hcz7_1 hfz7_0 hfz7_1 hx0 hx1 hlt hgb
            have HM := Aside0.mk hm
            have HMLE := Aside0.mk hmle
            clear hm hmle hwr hm0
            have hs0 : (0 ≤ (m : Int)) = True := eq_true (by omega)
            have hs1 : ((m : Int) ≤ (p.length : Int)) = True := eq_true (by have := HMLE.out; omega)
            have hs2 : ((p.length : Int) ≤ (c3 : Int)) = True := eq_true (by have := HCC3.out; omega)
            have hlt10 : gb < W10.heap.size := World.block_lt_of_cell? W10 _ hc10
            have hclone : ∀ W, Below W10.heap.size W10 W → Calls Try.prog 117 #[.slice (if c3 = m then A3 else A3.map (fun x => x.add m)) (p.length - m) (c3 - m)] W fun e w' => ∃ (A5 : Option Addr) (c5 : Nat), e = .returned (.slice A5 (p.length - m) c5) ∧ Aside0 (Kd.R Tree.ptrK 91 w' W10.heap.size (fun _ => True) (.slice A5 (p.length - m) c5) (p.drop m)) ∧ w'.cell? ⟨gb, 0, none⟩ = some (.int .i64 (rd_T87 l0 x).f0) ∧ w'.cell? ⟨gb, 1, none⟩ = some (.int .i64 (rd_T87 l0 x).f1) ∧ Below W10.heap.size W10 w' := by
              intro W hW
              have hc := Kd.C_drop (Kd.C_below (Tree.row_C HST10.out.r3) hW) HMLE.out HCC3.out
              rw [show m * Tree.ptrK.sz = m from Nat.mul_one m] at hc
              have hl : (p.drop m).length = p.length - m := List.length_drop
              rw [← hl]
              refine (slices_Clone_ptr.calls _ _ _ _ hc (by rw [hl]; have := HCC3.out; omega) (by rw [hl]; have := HM.out; have := (Tree.arity_range (rd_T87 l0 x).f0).2; have := HAR.out; omega)).mono ?_
              rintro e w' ⟨v0, rfl, hR, hb⟩
              have hb' := below_step hW hb
              obtain ⟨A5, c5, rfl, -, -⟩ := Tree.row_slice hR
              rw [hl] at hR ⊢
              exact ⟨A5, c5, rfl, ⟨Kd.R_lower hR hW.size⟩, (hb'.cell hlt10).trans hc10, (hb'.cell hlt10).trans hc11, hb'⟩
            clear hlt10
            go_region_held3 (fun w' => w'.cell? ⟨gb, 0, none⟩ = some (.int .i64 (rd_T87 l0 x).f0) ∧ w'.cell? ⟨gb, 1, none⟩ = some (.int .i64 (rd_T87 l0 x).f1) ∧ Below W10.heap.size W10 w') (first | (refine ⟨?_, ?_, Below.drew (Below.refl _ _)⟩ <;> go_keep) | exact ⟨by assumption, by assumption, by assumption⟩ | (refine ⟨?_, ?_, ?_⟩ <;> first | (exact below_alloc (by assumption) _) | go_keep) | go_keep) ((go_at_call 117; refine (hclone _ (Below.drew (Below.refl _ _))).mono ?_; rintro e wc ⟨A5, c5, rfl, HRc, hcc0, hcc1, hBc⟩; (try dsimp only)))
            have hn := HST10.out.nodeT (op := (rd_T87 l0 x).f0) (n := (rd_T87 l0 x).f1) (W2 := wc.alloc (.cells #[.int .i64 (rd_T87 l0 x).f0, .int .i64 (rd_T87 l0 x).f1, .slice A5 (p.length - m) c5] 124)) (g := wc.heap.size) HRc.out hBc (below_alloc (Below.refl _ _) _) (by go_simp) (by go_simp) (by go_simp) hBc.size HMLE.out
            generalize wc.alloc (.cells #[.int .i64 (rd_T87 l0 x).f0, .int .i64 (rd_T87 l0 x).f1, .slice A5 (p.length - m) c5] 124) = W12 at hn ⊢
            generalize wc.heap.size = gm at hn ⊢
            generalize (if c3 = m then A3 else A3.map (fun x => x.add m)) = A47
            have HS12 := Aside0.mk hn.1
            have HT12 := Aside0.mk hn.2
            clear hn hc10 hc11 hcc0 hcc1 hBc hclone HRc
            have hs3 : ((m : Int) ≤ (c3 : Int)) = True := eq_true (by have := HMLE.out; have := HCC3.out; omega)
            have HBL := Aside0.mk (Tree.build_len _ _ _ HBU.out)
            have HPL := Aside0.mk HST10.out.t3.1
            have HOL := Aside0.mk HST10.out.t4.1
            have hX : x.toNat ≤ l0.length := by have := C2.out; omega
            have HX := Aside0.mk hX
            clear hX
            go_wp2_with (first | ((with_reducible refine gate_builtin (b := .append) (xs := #[.tmp 53, .tmp 55]) rfl ?_); at_builtin; refine Kd.R_append Tree.ptrK (w0 := w) w.heap.size rfl (.tmp 53) (.tmp 55) 95 91 (.pointer none) 8 rfl Try.underlying95 infoPtr rfl (by decide) (by omega) (.slice A3 m c3) (p.take m) ⟨gm, 0, none⟩ [.pointer (some ⟨gm, 0, none⟩)] (fun _ => True) (fun _ => False) rfl rfl ?aP (fun _ hk => hk.elim) ?aF ?aO ?aB ?aS ?aL ?_; (case aP => exact rfl); (case aF => exact (fun _ _ => trivial)); (case aO => exact HS12.out.r3); (case aB => exact HS12.out.hb); (case aS => exact HS12.out.hb.size); (case aL => have := HBL.out; have := HPL.out; have := HOL.out; have := HX.out; have := HLEN.out; have := HM.out; simp [toP] at *; omega); intro v31 w31 ho hb hg hat; have h31 := HS12.out.push3 HT12.out ho hg hat hb; have HS13 := Aside0.mk h31.1; have HT13 := Aside0.mk h31.2; clear ho hb hg hat h31) | ((with_reducible refine gate_builtin (b := .append) (xs := #[.tmp 57, .tmp 59]) rfl ?_); at_builtin; refine Kd.R_append Tree.ptrK (w0 := w) w.heap.size rfl (.tmp 57) (.tmp 59) 95 91 (.pointer none) 8 rfl Try.underlying95 infoPtr rfl (by decide) (by omega) (.slice A4 o.length c4) o ⟨gm, 0, none⟩ [.pointer (some ⟨gm, 0, none⟩)] (fun _ => True) (fun _ => False) rfl rfl ?aP (fun _ hk => hk.elim) ?aF ?aO ?aB ?aS ?aL ?_; (case aP => exact rfl); (case aF => exact (fun _ _ => trivial)); (case aO => exact HS13.out.r4); (case aB => exact HS13.out.hb); (case aS => exact HS13.out.hb.size); (case aL => have := HBL.out; have := HPL.out; have := HOL.out; have := HX.out; have := HLEN.out; have := HM.out; simp [toP] at *; omega); intro v41 w41 ho hb hg hat; have h41 := HS13.out.push4 HT13.out ho hg hat hb; have HS14 := Aside0.mk h41; clear ho hb hg hat h41))
            go_roundg (l0.length - (x.toNat + 1))
            case measure => have := HGG.out; have := C2.out; have := H0.out; omega
            case rel =>
              have e1 : wrap64 (x + 1) = x + 1 := by have := HLEN.out; have := C2.out; have := H0.out; unfold wrap64; omega
              have hx1' : (x + 1).toNat = x.toNat + 1 := by have := H0.out; omega
              refine ⟨x + 1, by rw [e1], ⟨by have := H0.out; omega, by have := C2.out; omega, by rw [hx1']; exact Nat.le_refl _, _, _, _, ?_, HS14.out⟩⟩
              rw [hx1', build_succ l0 x.toNat (by have := H0.out; have := C2.out; omega) HBU.out]
              unfold Tree.step
              have ha : Tree.arity (rd_T87 l0 x).f0 ≤ (s.1.length : Int) := by rw [← HPL.out]; exact HAR.out
              refine (if_pos ⟨HNUM.out, ha⟩).trans ?_
              rw [HM.out, HPL.out]
              rfl
      · obtain ⟨h0, hxl, hgg, s, p, o, hbuild, hst⟩ := A.out
        have hx : x = (l0.length : Int) := by omega
        subst hx
        obtain ⟨A3, c3, rfl, hc3, hC3⟩ := Tree.row_slice hst.r3
        have HST := Aside0.mk hst
        have hbl : Tree.build (toP l0) ([], []) = some s := by
          have : ((l0.length : Int)).toNat = l0.length := by omega
          rw [this, List.take_length] at hbuild
          exact hbuild
        have HBU := Aside0.mk hbl
        have HPL := Aside0.mk hst.t3.1
        clear A hst hbuild hgg hxl hc3 hC3 hbl
        by_cases hp : p.length = 1
        · have HP := Aside0.mk hp
          replace hp : (p.length : Int) = 1 := by omega
          go_wp2
          go_ret
          refine ⟨_, rfl, ⟨?_⟩, HST.out.hb⟩
          unfold Tree.treesOf
          rw [if_pos (by rw [toP_len]; have := HLEN.out; omega), HBU.out]
          show TreesRes _ _ (if s.1.length = 1 then some s.2 else none) _
          rw [if_pos (by rw [← HPL.out]; exact HP.out)]
          refine ⟨o, ?_, HST.out.r4, HST.out.t4.imp (fun k hk => ⟨hk.1, hk.2.2⟩)⟩
          rw [(Tree.build_len _ _ _ HBU.out).2, toP_len]
          have := HLEN.out
          simp
          omega
        · have HP := Aside0.mk hp
          have hp1 : ((p.length : Int) != 1) = true := by rw [bne_iff_ne]; omega
          clear hp
          go_wp2
          go_ret
          refine ⟨.slice none 0 0, rfl, ⟨?_⟩, HST.out.hb⟩
          unfold Tree.treesOf
          rw [if_pos (by rw [toP_len]; have := HLEN.out; omega), HBU.out]
          show TreesRes _ _ (if s.1.length = 1 then some s.2 else none) _
          rw [if_neg (by rw [← HPL.out]; exact HP.out)]
          rfl
  · have hW := fun W => withinC (l0.length : Int) 1 40 W
    rw [decide_eq_false hlen] at hW
    have HLEN := Aside0.mk hlen
    clear hlen
    go_enter Try.func83, Try.ntmps83
    go_wp2_with (go_at_call 84; refine (hW _).mono ?_; rintro e w' ⟨rfl, ⟨q, rfl⟩⟩)
    go_ret
    refine ⟨.slice none 0 0, rfl, ⟨?_⟩, by repeat (first | (with_reducible first | exact HB.out | apply below_alloc | apply pw_below_drewN | apply below_drew1) | exact HB.out)⟩
    unfold Tree.treesOf
    rw [if_neg (by have := HLEN.out; simp [toP]; omega)]
    rfl

/-! ### impl.treeOf: function 78, by hand -/
/-- What treeOf hands back. -/
def TreeRes (w w' : World) (r : Option Tree.Tr) (v : Value) : Prop :=
  match r with
  | none => v = .pointer none
  | some T => ∃ a : Addr, v = .pointer (some a) ∧ Tree.Tree w' (fun k => w.heap.size ≤ k) T a
set_option maxHeartbeats 8000000 in
set_option maxRecDepth 100000 in
theorem impl_treeOf.calls (A0 : Option Addr) (c0 : Nat) (l0 : List S87) (w : World) (hr0 : Kd.C k87 w A0 l0.length l0) (hc0 : l0.length ≤ c0) :
    Calls Try.prog 78 #[.slice A0 l0.length c0] w fun e w' => ∃ v : Value, e = .returned v ∧ Aside0 (TreeRes w w' (Tree.treeOf (toP l0)) v) ∧ Below w.heap.size w w' := by
  have HT := Aside0.mk (impl_trees.calls A0 c0 l0 w hr0 hc0)
  clear hr0 hc0
  unfold Tree.treeOf
  cases hT : Tree.treesOf (toP l0) with
  | none =>
    rw [hT] at HT
    clear hT
    have hnil := fun W => Lib.run_eql_slice_nil (P := Try.prog) W 95 91 none 0 0 0 0 Try.underlying95
    go_enter Try.func78, Try.ntmps78
    go_wp2_with (go_at_call 83; refine HT.out.mono ?_; rintro e w' ⟨v, rfl, hR, hb⟩; obtain rfl := hR.out; have HB := Aside0.mk hb; clear hR hb)
    go_ret
    exact ⟨_, rfl, ⟨rfl⟩, HB.out⟩
  | some Ts =>
    rw [hT] at HT
    clear hT
    have HT2 : Aside0 (Calls Try.prog 83 #[.slice A0 l0.length c0] w fun e w' => ∃ (ad : Addr) (n c : Nat) (a : Addr), e = .returned (.slice (some ad) n c) ∧ 0 < n ∧ w'.cell? (ad.add (n - 1)) = some (.pointer (some a)) ∧ Aside0 (n ≤ 9223372036854775807) ∧ Aside0 (∃ T, Ts.getLast? = some T ∧ Tree.Tree w' (fun k => w.heap.size ≤ k) T a) ∧ Aside0 (Below w.heap.size w w')) := by
      refine ⟨HT.out.mono ?_⟩
      rintro e w' ⟨v, rfl, hR, hb⟩
      obtain ⟨az, hpos, hRR, hTs⟩ := hR.out
      obtain ⟨A, c, rfl, hc, hC⟩ := Tree.row_slice hRR
      have hl : az.length = Ts.length := hTs.1
      obtain ⟨ad, rfl, hcell⟩ := Tree.ptr_at hC (az.length - 1) (by omega)
      refine ⟨ad, az.length, c, _, rfl, by omega, hcell, ⟨hC.2.1⟩, ⟨Ts[Ts.length - 1], ?_, ?_⟩, ⟨hb⟩⟩
      · rw [List.getLast?_eq_getElem?, List.getElem?_eq_getElem (by omega)]
      · rw [hl]
        exact (hTs.2 (Ts.length - 1) (by omega)).imp (fun k hk => hk.1)
    clear HT
    have hnil := fun W ad n c => Lib.run_eql_slice_nil (P := Try.prog) W 95 91 (some ad) n c 0 0 Try.underlying95
    go_enter Try.func78, Try.ntmps78
    go_wp2_with (go_at_call 83; refine HT2.out.mono ?_; rintro e w' ⟨ad, n, c, a, rfl, hn, hcell, HN, HTT, HB⟩; have hw : wrap64 ((n : Int) - 1) = ((n - 1 : Nat) : Int) := (by have := HN.out; unfold wrap64; omega); have hi0 : (0 ≤ ((n - 1 : Nat) : Int)) = True := eq_true (by omega); have hi1 : (((n - 1 : Nat) : Int) < (n : Int)) = True := eq_true (by omega); have hn' := Aside0.mk hn; clear hn)
    go_ret
    obtain ⟨T, e1, e2⟩ := HTT.out
    refine ⟨_, rfl, ⟨?_⟩, HB.out⟩
    show TreeRes _ _ Ts.getLast? _
    rw [e1]
    exact ⟨a, rfl, e2⟩

/-! ### (*impl.tree).vars: function 130, by hand -/
theorem grown_trans {w w1 w2 : World} {row : Option Nat} (h : w.grownBy w1 row) (k : w1.grownBy w2 row) : w.grownBy w2 row :=
  ⟨k.os.trans h.os, k.tape.trans h.tape, k.output.trans h.output, Nat.le_trans h.size k.size, fun j hj hne => (k.block j (Nat.lt_of_lt_of_le hj h.size) hne).trans (h.block j hj hne)⟩
theorem grown_refl (w : World) (row : Option Nat) : w.grownBy w row := ⟨rfl, rfl, rfl, Nat.le_refl _, fun _ _ _ => rfl⟩
/-- What vars says of a tree. -/
def VarsSays (d : Nat) : Prop := ∀ (T : Tree.Tr) (a : Addr) (ok : Nat → Prop) (B cp b0 : Nat) (bs : List Bool) (sure : Bool) (w : World), Tree.TreeAt w ok d T a → (∀ k, ok k → k ≠ B) → Tree.Good T → bs.length = 4 → Kd.R Kd.bool 4 w b0 (fun _ => True) (.slice (some ⟨B, 0, none⟩) 4 cp) bs →
    Calls Try.prog 130 #[.pointer (some a), .slice (some ⟨B, 0, none⟩) 4 cp, .bool sure] w fun e w' => e = .returned (.tuple #[]) ∧ Kd.R Kd.bool 4 w' b0 (fun _ => True) (.slice (some ⟨B, 0, none⟩) 4 cp) (Tree.note bs (T.vs sure)) ∧ w.grownBy w' (some B)
set_option maxHeartbeats 8000000 in
set_option maxRecDepth 100000 in
theorem vars_var {d : Nat} (T : Tree.Tr) (a : Addr) (ok : Nat → Prop) (B cp b0 : Nat) (bs : List Bool) (sure : Bool) (w : World) (h : Tree.TreeAt w ok (d + 1) T a) (hB : ∀ k, ok k → k ≠ B) (hg : Tree.Good T) (h4 : bs.length = 4) (hR : Kd.R Kd.bool 4 w b0 (fun _ => True) (.slice (some ⟨B, 0, none⟩) 4 cp) bs) (e : T.op = 2) :
    Calls Try.prog 130 #[.pointer (some a), .slice (some ⟨B, 0, none⟩) 4 cp, .bool sure] w fun e w' => e = .returned (.tuple #[]) ∧ Kd.R Kd.bool 4 w' b0 (fun _ => True) (.slice (some ⟨B, 0, none⟩) 4 cp) (Tree.note bs (T.vs sure)) ∧ w.grownBy w' (some B) := by
  obtain ⟨g, A, cc, az, rfl, h1, h2, h3, -⟩ := h
  have hvs : T.vs sure = [T.n] := by rw [Tree.vs_eq, if_pos e]
  rw [hvs]
  have hn := hg.num
  have har := hg.arity
  rw [e] at hn h1 har
  have hk : T.kids.length = 0 := by have : Tree.arity 2 = 0 := rfl; omega
  rw [hk] at h3
  have hn : 0 ≤ T.n ∧ T.n < 4 := by
    unfold Tree.numOK at hn
    rw [if_neg (by omega), if_pos rfl] at hn
    exact of_decide_eq_true hn
  obtain ⟨p1, p2⟩ := hn
  generalize T.n = n at p1 p2 h2
  obtain ⟨hx, hf⟩ := Kd.R_celln false hR n p1 p2
  have HP := Aside0.mk (Kd.R_putg hR n true)
  replace p1 := eq_true p1
  replace p2 := eq_true p2
  clear e hvs hB hg h4 hR har hk
  go_enter Try.func130, Try.ntmps130
  go_wp2_with (((with_reducible refine gate_store (t := 4) (p := 24) rfl ?_); refine store_event (t := 4) (p := 24) (v := ?vo_w11) (w1 := (w.setCell ⟨B, n.toNat, none⟩ (.bool true))) ?hg ?ho ?hn ?hr ?_; (case ho => rfl); (case hg => rfl); (case hn => rfl); (case hr => first | (go_simp; done) | (go_simp; rfl)); intro w2 hw; have HP2 := HP.out; have HP3 : Aside0 (Kd.R Kd.bool 4 w2 b0 (fun _ => True) (.slice (some ⟨B, 0, none⟩) 4 cp) (bs.set n.toNat true)) := ⟨by rw [hw]; exact HP2.1⟩; have HG := Aside0.mk (show w.grownBy w2 (some B) by rw [hw]; exact HP2.2); clear hw HP2))
  go_loopg [38] 0 (fun gg v38 wr => v38 = .int .i64 0 ∧ Aside0 (Kd.R Kd.bool 4 wr b0 (fun _ => True) (.slice (some ⟨B, 0, none⟩) 4 cp) (bs.set n.toNat true)) ∧ Aside0 (w.grownBy wr (some B)))
  case atStart => exact ⟨rfl, HP3, HG⟩
  case round =>
    obtain ⟨rfl, R1, G1⟩ := hrel
    go_wp2
    go_end0
    exact ⟨rfl, R1.out, G1.out⟩
set_option maxHeartbeats 8000000 in
set_option maxRecDepth 100000 in
theorem vars_gen {d : Nat} (ih : VarsSays d) (T : Tree.Tr) (a : Addr) (ok : Nat → Prop) (B cp b0 : Nat) (bs : List Bool) (sure : Bool) (w : World) (h : Tree.TreeAt w ok (d + 1) T a) (hB : ∀ k, ok k → k ≠ B) (hg : Tree.Good T) (h4 : bs.length = 4) (hR : Kd.R Kd.bool 4 w b0 (fun _ => True) (.slice (some ⟨B, 0, none⟩) 4 cp) bs) (e2 : T.op ≠ 2) (e : ¬ (T.op = 11 ∧ sure = true)) :
    Calls Try.prog 130 #[.pointer (some a), .slice (some ⟨B, 0, none⟩) 4 cp, .bool sure] w fun e w' => e = .returned (.tuple #[]) ∧ Kd.R Kd.bool 4 w' b0 (fun _ => True) (.slice (some ⟨B, 0, none⟩) 4 cp) (Tree.note bs (T.vs sure)) ∧ w.grownBy w' (some B) := by
  obtain ⟨g, A, cc, az, rfl, h1, h2, h3, h5, h6, h7, h8, h9, h10⟩ := h
  obtain ⟨vs, hv⟩ : ∃ vs : Tree.Tr → List Int, ∀ k, vs k = k.vs sure := ⟨fun k => k.vs sure, fun _ => rfl⟩
  have hvs : T.vs sure = (T.eff sure).flatMap vs := by rw [Tree.vs_eq, if_neg (by omega)]; congr 1; funext k; exact (hv k).symm
  have heff : T.eff sure = T.kids := by unfold Tree.Tr.eff; rw [if_neg e]
  obtain ⟨ks, hks⟩ : ∃ ks, ks = T.eff sure := ⟨_, rfl⟩
  rw [hvs]
  rw [← hks] at heff ⊢
  have hlen : T.kids.length ≤ 3 := by have := hg.arity; have := (Tree.arity_range T.op).2; omega
  have hkl : ks.length = T.kids.length := by rw [heff]
  have HIH : Aside0 (∀ i (hi : i < ks.length) (W : World) (bs : List Bool), bs.length = 4 → w.grownBy W (some B) → Kd.R Kd.bool 4 W b0 (fun _ => True) (.slice (some ⟨B, 0, none⟩) 4 cp) bs → Calls Try.prog 130 #[.pointer (some (az.getD i Tree.nowhere)), .slice (some ⟨B, 0, none⟩) 4 cp, .bool sure] W fun e w' => e = .returned (.tuple #[]) ∧ Kd.R Kd.bool 4 w' b0 (fun _ => True) (.slice (some ⟨B, 0, none⟩) 4 cp) (Tree.note bs (vs ks[i])) ∧ w.grownBy w' (some B)) := by
    refine ⟨fun i hi W bs h4 hG hR => ?_⟩
    have hi' : i < T.kids.length := by rw [hkl] at hi; omega
    have hK : ks[i] = T.kids[i] := by simp only [heff]
    have ht := Tree.TreeAt.move (w' := W) (fun k (hk : ok k ∧ k < w.heap.size) => hG.block k hk.2 (by have := hB k hk.1; simpa using this)) _ _ _ (Tree.TreeAt.bound _ _ _ (h8 i hi'))
    rw [hv]
    refine (ih ks[i] (az.getD i Tree.nowhere) (fun k => ok k ∧ k < w.heap.size) B cp b0 bs sure W (by rw [hK]; exact ht) (fun k hk => hB k hk.1) (by rw [hK]; exact hg.kids _ (List.getElem_mem hi')) h4 hR).mono ?_
    rintro e w' ⟨h1, h2, h3⟩
    exact ⟨h1, h2, grown_trans hG h3⟩
  have HC : Aside0 (∀ i (hi : i < ks.length) (W : World), w.grownBy W (some B) → ∃ ad, A = some ad ∧ W.cell? (ad.add i) = some (.pointer (some (az.getD i Tree.nowhere)))) := by
    refine ⟨fun i hi W hG => ?_⟩
    have hi' : i < T.kids.length := by rw [hkl] at hi; omega
    obtain ⟨ad, e, hx⟩ := Tree.ptr_at h7 i hi'
    refine ⟨ad, e, hG.cell hx ?_⟩
    rw [Tree.add_block]
    have := hB _ (h10 (by omega) ad e)
    simpa using this
  have HKL := Aside0.mk hkl
  have HLN := Aside0.mk hlen
  have HNL : Aside0 (∀ l : List Tree.Tr, (Tree.note bs (l.flatMap vs)).length = 4) := ⟨fun l => by rw [Tree.note_len]; exact h4⟩
  have HR := Aside0.mk hR
  have g2 : (T.op == 2) = false := by rw [beq_eq_false_iff_ne]; exact e2
  have g11 : (T.op == 11) = false ∨ ((T.op == 11) = true ∧ sure = false) := by
    by_cases h : T.op = 11
    · exact .inr ⟨by simp [h], by cases sure with | true => exact absurd ⟨h, rfl⟩ e | false => rfl⟩
    · exact .inl (by rw [beq_eq_false_iff_ne]; exact h)
  clear e e2
  clear hv hvs heff hks hlen hkl ih h10 h9 h8 h7 h6 h4 hR hB hg
  rcases g11 with g11 | ⟨g11, rfl⟩
  all_goals
    go_enter Try.func130, Try.ntmps130
    go_wp2
    go_loopg [38] ks.length (fun gg v38 wr => ∃ i : Nat, v38 = .int .i64 (i : Int) ∧ Aside0 (i ≤ ks.length ∧ ks.length - i ≤ gg) ∧ Aside0 (Kd.R Kd.bool 4 wr b0 (fun _ => True) (.slice (some ⟨B, 0, none⟩) 4 cp) (Tree.note bs ((ks.take i).flatMap vs))) ∧ Aside0 (w.grownBy wr (some B)))
    case atStart => exact ⟨0, rfl, ⟨Nat.zero_le _, Nat.le_refl _⟩, HR, ⟨grown_refl _ _⟩⟩
    case round =>
      obtain ⟨i, rfl, A1, R1, G1⟩ := hrel
      by_cases c2 : i < ks.length
      · obtain ⟨ad, e0, hx⟩ := HC.out i c2 wr G1.out
        cases e0
        have hsub := HIH.out i c2 wr _ (HNL.out (ks.take i)) G1.out R1.out
        have hnext : Tree.note (Tree.note bs ((ks.take i).flatMap vs)) (vs ks[i]) = Tree.note bs ((ks.take (i + 1)).flatMap vs) := by
          rw [← Tree.note_append, List.take_succ_eq_append_getElem c2, List.flatMap_append]
          simp
        rw [hnext] at hsub
        generalize az.getD i Tree.nowhere = ai at hx hsub
        have C2 := Aside0.mk c2
        have c2t : ((i : Int) < (T.kids.length : Int)) = True := eq_true (by have := HKL.out; omega)

        clear c2 hnext
        go_wp2_with (go_at_call 130; (with_reducible refine hsub.mono ?_); rintro e w1 ⟨rfl, hr, hgr⟩; have R2 := Aside0.mk hr; have G2 := Aside0.mk hgr; clear hr hgr)
        go_roundg (ks.length - (i + 1))
        case measure => have := A1.out; have := C2.out; omega
        case rel =>
          refine ⟨i + 1, ?_, ⟨C2.out, Nat.le_refl _⟩, R2, G2⟩
          congr 1; have := HLN.out; have := HKL.out; have := C2.out; unfold wrap64; omega
      · have hi : i = ks.length := by have := A1.out; omega
        have c2t : ((i : Int) < (T.kids.length : Int)) = False := eq_false (by have := HKL.out; omega)

        have HR2 : Aside0 (Kd.R Kd.bool 4 wr b0 (fun _ => True) (.slice (some ⟨B, 0, none⟩) 4 cp) (Tree.note bs (ks.flatMap vs))) := by
          have := R1.out
          rw [hi, List.take_length] at this
          exact ⟨this⟩
        clear c2 hi
        go_wp2
        go_end0
        exact ⟨rfl, HR2.out, G1.out⟩
set_option maxHeartbeats 8000000 in
set_option maxRecDepth 100000 in
theorem vars_if {d : Nat} (ih : VarsSays d) (T : Tree.Tr) (a : Addr) (ok : Nat → Prop) (B cp b0 : Nat) (bs : List Bool) (sure : Bool) (w : World) (h : Tree.TreeAt w ok (d + 1) T a) (hB : ∀ k, ok k → k ≠ B) (hg : Tree.Good T) (h4 : bs.length = 4) (hR : Kd.R Kd.bool 4 w b0 (fun _ => True) (.slice (some ⟨B, 0, none⟩) 4 cp) bs) (e : T.op = 11) (es : sure = true) :
    Calls Try.prog 130 #[.pointer (some a), .slice (some ⟨B, 0, none⟩) 4 cp, .bool sure] w fun e w' => e = .returned (.tuple #[]) ∧ Kd.R Kd.bool 4 w' b0 (fun _ => True) (.slice (some ⟨B, 0, none⟩) 4 cp) (Tree.note bs (T.vs sure)) ∧ w.grownBy w' (some B) := by
  obtain ⟨g, A, cc, az, rfl, h1, h2, h3, h5, h6, h7, h8, h9, h10⟩ := h
  obtain ⟨vs, hv⟩ : ∃ vs : Tree.Tr → List Int, ∀ k, vs k = k.vs sure := ⟨fun k => k.vs sure, fun _ => rfl⟩
  have hvs : T.vs sure = (T.eff sure).flatMap vs := by rw [Tree.vs_eq, if_neg (by omega)]; congr 1; funext k; exact (hv k).symm
  have heff : T.eff sure = T.kids.take 1 := by unfold Tree.Tr.eff; rw [if_pos ⟨e, es⟩]
  obtain ⟨ks, hks⟩ : ∃ ks, ks = T.eff sure := ⟨_, rfl⟩
  rw [hvs]
  rw [← hks] at heff ⊢
  have hlen : T.kids.length ≤ 3 := by have := hg.arity; have := (Tree.arity_range T.op).2; omega
  have hk3 : T.kids.length = 3 := by have := hg.arity; rw [e] at this; have : Tree.arity 11 = 3 := rfl; omega
  have hkl : ks.length = 1 := by rw [heff, List.length_take]; omega
  have HIH : Aside0 (∀ i (hi : i < ks.length) (W : World) (bs : List Bool), bs.length = 4 → w.grownBy W (some B) → Kd.R Kd.bool 4 W b0 (fun _ => True) (.slice (some ⟨B, 0, none⟩) 4 cp) bs → Calls Try.prog 130 #[.pointer (some (az.getD i Tree.nowhere)), .slice (some ⟨B, 0, none⟩) 4 cp, .bool sure] W fun e w' => e = .returned (.tuple #[]) ∧ Kd.R Kd.bool 4 w' b0 (fun _ => True) (.slice (some ⟨B, 0, none⟩) 4 cp) (Tree.note bs (vs ks[i])) ∧ w.grownBy w' (some B)) := by
    refine ⟨fun i hi W bs h4 hG hR => ?_⟩
    have hi' : i < T.kids.length := by rw [hkl] at hi; omega
    have hK : ks[i] = T.kids[i] := by simp only [heff, List.getElem_take]
    have ht := Tree.TreeAt.move (w' := W) (fun k (hk : ok k ∧ k < w.heap.size) => hG.block k hk.2 (by have := hB k hk.1; simpa using this)) _ _ _ (Tree.TreeAt.bound _ _ _ (h8 i hi'))
    rw [hv]
    refine (ih ks[i] (az.getD i Tree.nowhere) (fun k => ok k ∧ k < w.heap.size) B cp b0 bs sure W (by rw [hK]; exact ht) (fun k hk => hB k hk.1) (by rw [hK]; exact hg.kids _ (List.getElem_mem hi')) h4 hR).mono ?_
    rintro e w' ⟨h1, h2, h3⟩
    exact ⟨h1, h2, grown_trans hG h3⟩
  have HC : Aside0 (∀ i (hi : i < ks.length) (W : World), w.grownBy W (some B) → ∃ ad, A = some ad ∧ W.cell? (ad.add i) = some (.pointer (some (az.getD i Tree.nowhere)))) := by
    refine ⟨fun i hi W hG => ?_⟩
    have hi' : i < T.kids.length := by rw [hkl] at hi; omega
    obtain ⟨ad, e, hx⟩ := Tree.ptr_at h7 i hi'
    refine ⟨ad, e, hG.cell hx ?_⟩
    rw [Tree.add_block]
    have := hB _ (h10 (by omega) ad e)
    simpa using this
  have HKL := Aside0.mk hkl
  have HLN := Aside0.mk hlen
  have HNL : Aside0 (∀ l : List Tree.Tr, (Tree.note bs (l.flatMap vs)).length = 4) := ⟨fun l => by rw [Tree.note_len]; exact h4⟩
  have HR := Aside0.mk hR
  have hc1 : (1 ≤ cc) = True := eq_true (by omega)
  have hc2 : ((1 : Int) ≤ (cc : Int)) = True := eq_true (by omega)
  obtain ⟨ad, eA, -⟩ := Tree.ptr_at h7 0 (by omega)
  subst eA
  rw [e] at h1
  subst es
  clear e hk3
  clear hv hvs heff hks hlen hkl ih h10 h9 h8 h7 h6 h4 hR hB hg
  go_enter Try.func130, Try.ntmps130
  go_wp2
  go_loopg [38] ks.length (fun gg v38 wr => ∃ i : Nat, v38 = .int .i64 (i : Int) ∧ Aside0 (i ≤ ks.length ∧ ks.length - i ≤ gg) ∧ Aside0 (Kd.R Kd.bool 4 wr b0 (fun _ => True) (.slice (some ⟨B, 0, none⟩) 4 cp) (Tree.note bs ((ks.take i).flatMap vs))) ∧ Aside0 (w.grownBy wr (some B)))
  case atStart => exact ⟨0, rfl, ⟨Nat.zero_le _, Nat.le_refl _⟩, HR, ⟨grown_refl _ _⟩⟩
  case round =>
    obtain ⟨i, rfl, A1, R1, G1⟩ := hrel
    by_cases c2 : i < ks.length
    · obtain ⟨ad, e0, hx⟩ := HC.out i c2 wr G1.out
      cases e0
      have hsub := HIH.out i c2 wr _ (HNL.out (ks.take i)) G1.out R1.out
      have hnext : Tree.note (Tree.note bs ((ks.take i).flatMap vs)) (vs ks[i]) = Tree.note bs ((ks.take (i + 1)).flatMap vs) := by
        rw [← Tree.note_append, List.take_succ_eq_append_getElem c2, List.flatMap_append]
        simp
      rw [hnext] at hsub
      generalize az.getD i Tree.nowhere = ai at hx hsub
      have C2 := Aside0.mk c2
      have c2t : ((i : Int) < (1 : Int)) = True := eq_true (by have := HKL.out; omega)

      clear c2 hnext
      go_wp2_with (go_at_call 130; (with_reducible refine hsub.mono ?_); rintro e w1 ⟨rfl, hr, hgr⟩; have R2 := Aside0.mk hr; have G2 := Aside0.mk hgr; clear hr hgr)
      go_roundg (ks.length - (i + 1))
      case measure => have := A1.out; have := C2.out; omega
      case rel =>
        refine ⟨i + 1, ?_, ⟨C2.out, Nat.le_refl _⟩, R2, G2⟩
        congr 1; have := HLN.out; have := HKL.out; have := C2.out; unfold wrap64; omega
    · have hi : i = ks.length := by have := A1.out; omega
      have c2t : ((i : Int) < (1 : Int)) = False := eq_false (by have := HKL.out; omega)

      have HR2 : Aside0 (Kd.R Kd.bool 4 wr b0 (fun _ => True) (.slice (some ⟨B, 0, none⟩) 4 cp) (Tree.note bs (ks.flatMap vs))) := by
        have := R1.out
        rw [hi, List.take_length] at this
        exact ⟨this⟩
      clear c2 hi
      go_wp2
      go_end0
      exact ⟨rfl, HR2.out, G1.out⟩
theorem tree_vars.calls (d : Nat) : VarsSays d := by
  induction d with
  | zero => intro T a ok B cp b0 bs sure w h; exact h.elim
  | succ d ih =>
    intro T a ok B cp b0 bs sure w h hB hg h4 hR
    by_cases e2 : T.op = 2
    · exact vars_var T a ok B cp b0 bs sure w h hB hg h4 hR e2
    · by_cases e : T.op = 11 ∧ sure = true
      · exact vars_if ih T a ok B cp b0 bs sure w h hB hg h4 hR e.1 e.2
      · exact vars_gen ih T a ok B cp b0 bs sure w h hB hg h4 hR e2 e

/-! ### (*impl.tree).varList: function 99, by hand -/
/-- The places that are noted, below one. -/
def notedTo (fs : List Bool) (n : Nat) : List Int := ((List.range n).filter fun j => fs.getD j false).map fun j : Nat => (j : Int)
theorem notedTo_succ (fs : List Bool) (n : Nat) : notedTo fs (n + 1) = notedTo fs n ++ (if fs.getD n false = true then [(n : Int)] else []) := by
  unfold notedTo
  rw [List.range_succ, List.filter_append, List.map_append]
  congr 1
  rw [List.filter_cons, List.filter_nil]
  by_cases h : fs.getD n false = true
  · rw [if_pos h, if_pos h]; rfl
  · rw [if_neg h, if_neg h]; rfl
theorem notedTo_len (fs : List Bool) (n : Nat) : (notedTo fs n).length ≤ n := by
  unfold notedTo
  rw [List.length_map]
  have := List.length_filter_le (fun j => fs.getD j false) (List.range n)
  rwa [List.length_range] at this
theorem own_away {v v1 : Value} {B m : Nat} (hne : v.ownBlock ≠ some B) (hB : B < m) (hat : v1.ownBlock = v.ownBlock ∨ ∃ b, v1.ownBlock = some b ∧ m ≤ b) : v1.ownBlock ≠ some B := by
  intro e
  rcases hat with h | ⟨b, h, h2⟩
  · exact hne (h.symm.trans e)
  · rw [h] at e; injection e with e; omega
theorem infoBool : (Try.prog.info? 4).map (fun i => (i.zero, i.size, i.bytes)) = some (some (.bool false), 1, 1) := by kernel_rfl
set_option maxHeartbeats 8000000 in
set_option maxRecDepth 100000 in
theorem tree_varList.calls (d : Nat) (T : Tree.Tr) (a : Addr) (ok : Nat → Prop) (sure : Bool) (w : World) (h : Tree.TreeAt w ok d T a) (hg : Tree.Good T) :
    Calls Try.prog 99 #[.pointer (some a), .bool sure] w fun e w' => ∃ v0_ : Value, e = .returned v0_ ∧ Kd.R (Kd.int .i64) 3 w' w.heap.size (fun _ => True) v0_ (notedTo (Tree.note (List.replicate 4 false) (T.vs sure)) 4) ∧ Below w.heap.size w w' := by
  have HV : Aside0 (∀ (W : World) (B cp : Nat), w.heap.size ≤ B → Below w.heap.size w W → Kd.R Kd.bool 4 W w.heap.size (fun _ => True) (.slice (some ⟨B, 0, none⟩) 4 cp) (List.replicate 4 false) → Calls Try.prog 130 #[.pointer (some a), .slice (some ⟨B, 0, none⟩) 4 cp, .bool sure] W fun e w' => e = .returned (.tuple #[]) ∧ Kd.R Kd.bool 4 w' w.heap.size (fun _ => True) (.slice (some ⟨B, 0, none⟩) 4 cp) (Tree.note (List.replicate 4 false) (T.vs sure)) ∧ W.grownBy w' (some B)) := by
    refine ⟨fun W B cp hB hW hR => ?_⟩
    have ht := Tree.TreeAt.move (w' := W) (fun k (hk : ok k ∧ k < w.heap.size) => hW.block k hk.2) _ _ _ (Tree.TreeAt.bound _ _ _ h)
    exact tree_vars.calls d T a (fun k => ok k ∧ k < w.heap.size) B cp w.heap.size _ sure W ht (fun k hk => by have := hk.2; omega) hg (by simp) hR
  generalize hfs : Tree.note (List.replicate 4 false) (T.vs sure) = fs at HV ⊢
  have hfl : fs.length = 4 := by rw [← hfs, Tree.note_len]; simp
  have HFL := Aside0.mk hfl
  clear hfs hfl h hg
  have c4 : (0 ≤ (4 : Int)) = True := eq_true (by omega)
  go_enter Try.func99, Try.ntmps99
  go_wp2_with (first | ((with_reducible refine gate_dst (N := 9) rfl ?_); refine Kd.R_make Kd.bool _ 4 rfl (N := 9) rfl 133 _ _ rfl 4 rfl rfl Try.underlying133 (.bool false) 1 infoBool rfl (by decide) (by omega) false (ok := fun _ => True) (okp := fun _ => True) rfl (fun _ hk => hk) trivial (by omega) (by decide) (Below.refl _ _) (Nat.le_refl _) ?_; intro v9 w9 ho hb hg_ hnew_; clear hg_ hnew_; obtain ⟨B, cp, rfl, gb, gl, -⟩ := Kd.R_form ho (by decide); have HO := Aside0.mk (show Kd.R Kd.bool 4 w9 w.heap.size (fun _ => True) (.slice (some ⟨B, 0, none⟩) 4 cp) (List.replicate 4 false) from ho); have GB := Aside0.mk gb; have GL := Aside0.mk gl; have HB := Aside0.mk hb; have hlen4 : (List.replicate (Int.toNat 4) false).length = 4 := rfl; (try rw [hlen4]); clear ho hb gb gl hlen4) | ((with_reducible refine gate_dst (N := 10) rfl ?_); refine Kd.R_lit (Kd.int .i64) _ 3 ?hg (N := 10) ?hd (xs := ([] : List Int)) (inner := []) (ok := fun _ => True) (okp := fun _ => True) ?hr ?hp (fun _ hk => hk) trivial (Below.refl _ _) (Nat.le_refl _) (by simp) ?_; (case hd => rfl); (case hg => rfl); (case hr => first | (go_simp; done) | (go_simp; rfl)); (case hp => exact (Reps.none _ _)); intro v10 w10 ho hb hg_ hnew_; have NB : Aside0 (v10.ownBlock ≠ some B) := ⟨by intro e; have := Kd.R_base ho B e; have := GL.out; omega⟩; have HO10 := Aside0.mk (Kd.R_lower ho HB.out.size); have HO1 := Aside0.mk (Kd.R_below HO.out hb); have HB1 := Aside0.mk (below_step HB.out hb); clear ho hb hg_ hnew_) | (go_at_call 130; (with_reducible refine (HV.out _ B cp GB.out HB1.out HO1.out).mono ?_); rintro e w11 ⟨rfl, hr, hgr⟩; have HO2 := Aside0.mk hr; have HB2 := Aside0.mk (pw_below_grown HB1.out (some B) HB1.out.size hgr (by intro k e; injection e with e; subst e; exact GB.out)); have HO11 := Aside0.mk (Kd.R_grown2 HO10.out rfl hgr (by intro k e he; injection e with e; subst e; exact NB.out he.symm)); clear hr hgr))
  go_loopg [6, 17] 4 (fun gg v6 v17 wr => ∃ i : Nat, v17 = .int .i64 (i : Int) ∧ Aside0 (i ≤ 4 ∧ 4 - i ≤ gg) ∧ Aside0 (Kd.R (Kd.int .i64) 3 wr w.heap.size (fun _ => True) v6 (notedTo fs i)) ∧ Aside0 (Kd.R Kd.bool 4 wr w.heap.size (fun _ => True) (.slice (some ⟨B, 0, none⟩) 4 cp) fs) ∧ Aside0 (v6.ownBlock ≠ some B) ∧ Aside0 (Below w.heap.size w wr))
  case atStart => exact ⟨0, rfl, ⟨Nat.zero_le _, Nat.le_refl _⟩, HO11, HO2, NB, HB2⟩
  case round =>
    obtain ⟨i, rfl, A1, R6, RB, NB, HB⟩ := hrel
    by_cases c2 : i < 4
    · have p9 : 0 ≤ (i : Int) := by omega
      have q9 : (i : Int) < ((4 : Nat) : Int) := by omega
      obtain ⟨hx, hf⟩ := Kd.R_celln false RB.out (i : Int) p9 q9
      rw [Int.toNat_natCast] at hx hf
      have hrd : rdOf false fs (i : Int) = fs.getD i false := by unfold rdOf; rw [Int.toNat_natCast]
      rw [hrd] at hx
      have hs := notedTo_succ fs i
      have c2t : ((i : Int) < 4) = True := eq_true (by omega)
      have c2n : (i < 4) = True := eq_true c2
      have C2 := Aside0.mk c2
      replace p9 := eq_true p9
      have HS := Aside0.mk hs
      obtain ⟨A6, c6, rfl, -, -⟩ := Kd.R_reads R6.out
      clear c2 q9 hrd hs hf
      cases hb : fs.getD i false with
      | true =>
        rw [hb] at hx
        have HS2 : Aside0 (notedTo fs (i + 1) = notedTo fs i ++ [(i : Int)]) := ⟨by rw [HS.out, hb]; rfl⟩
        clear hb
        go_wp2_with (((with_reducible refine gate_builtin (b := .append) (xs := #[.tmp 23, .tmp 25]) rfl ?_); at_builtin; refine Kd.R_append (Kd.int .i64) (w0 := w) w.heap.size rfl (.tmp 23) (.tmp 25) 53 3 (.int .i64 0) 8 rfl Try.underlying53 info3 rfl (by decide) (by omega) _ (notedTo fs i) (i : Int) [.int .i64 (i : Int)] (fun _ => True) (fun _ => False) rfl rfl ?aP (fun _ hk => hk.elim) ?aF ?aO ?aB ?aS ?aL ?_; (case aP => exact rfl); (case aB => exact HB.out); (case aF => exact (fun _ _ => trivial)); (case aO => exact R6.out); (case aS => exact HB.out.size); (case aL => have := notedTo_len fs i; have := C2.out; omega); intro v1 w1 ho hb hg hat; have R7 := Aside0.mk ho; have RB2 := Aside0.mk (Kd.R_grown2 RB.out rfl hg (by intro k e he; exact NB.out (e.trans (by rw [he]; rfl)))); have NB2 := Aside0.mk (own_away NB.out (Kd.R_lt RB.out B rfl) hat); have HB2 := Aside0.mk hb; clear ho hb hg hat))
        go_roundg (4 - (i + 1))
        case measure => have := A1.out; have := C2.out; omega
        case rel =>
          refine ⟨i + 1, ?_, ⟨C2.out, Nat.le_refl _⟩, ?_, RB2, NB2, HB2⟩
          · congr 1; have := C2.out; unfold wrap64; omega
          · rw [HS2.out]; exact R7
      | false =>
        rw [hb] at hx
        have HS2 : Aside0 (notedTo fs (i + 1) = notedTo fs i) := ⟨by rw [HS.out, hb]; simp⟩
        clear hb
        go_wp2
        go_roundg (4 - (i + 1))
        case measure => have := A1.out; have := C2.out; omega
        case rel =>
          refine ⟨i + 1, ?_, ⟨C2.out, Nat.le_refl _⟩, ?_, RB, NB, HB⟩
          · congr 1; have := C2.out; unfold wrap64; omega
          · rw [HS2.out]; exact R6
    · have hi : i = 4 := by have := A1.out; omega
      rw [hi] at R6
      have c2t : ((i : Int) < 4) = False := eq_false (by omega)
      clear c2 hi
      go_wp2
      go_ret
      exact ⟨_, rfl, R6.out, HB.out⟩

/-! ### impl.SureVars: function 57, by hand -/
def impl_SureVars.f (l0 : List S87) : Option (List Int × Bool) :=
  match Tree.treeOf (toP l0) with
  | none => some ([], false)
  | some T => some (notedTo (Tree.note (List.replicate 4 false) (T.vs true)) 4, true)
set_option maxHeartbeats 8000000 in
set_option maxRecDepth 100000 in
theorem impl_SureVars.calls (A0 : Option Addr) (c0 : Nat) (l0 : List S87) (r1 : List Int) (r2 : Bool) (w : World) (hr0 : Kd.C k87 w A0 l0.length l0) (hc0 : l0.length ≤ c0) (h : impl_SureVars.f l0 = some (r1, r2)) :
    Calls Try.prog 57 #[.slice A0 l0.length c0] w fun e w' => ∃ v0_ : Value, e = .returned (.tuple #[v0_, .bool r2]) ∧ Kd.R (Kd.int .i64) 3 w' w.heap.size (fun _ => True) v0_ r1 ∧ Below w.heap.size w w' := by
  have HT := Aside0.mk (impl_treeOf.calls A0 c0 l0 w hr0 hc0)
  clear hr0 hc0
  unfold impl_SureVars.f at h
  cases hT : Tree.treeOf (toP l0) with
  | none =>
    simp only [hT] at h HT
    obtain ⟨rfl, rfl⟩ : r1 = [] ∧ r2 = false := by simpa [eq_comm] using h
    clear hT h
    go_enter Try.func57, Try.ntmps57
    go_wp2_with (go_at_call 78; refine HT.out.mono ?_; rintro e w' ⟨v, rfl, hR, hb⟩; obtain rfl := hR.out; have HB := Aside0.mk hb; clear hR hb)
    go_ret2
    exact ⟨_, rfl, Kd.R_nil _ _ _ _ _, HB.out⟩
  | some T =>
    simp only [hT] at h HT
    obtain ⟨rfl, rfl⟩ : notedTo (Tree.note (List.replicate 4 false) (T.vs true)) 4 = r1 ∧ true = r2 := by simpa using h
    have HG := Aside0.mk (Tree.treeOf_flat hT).1
    clear hT h
    have HV : Aside0 (∀ (W : World) (a : Addr), Tree.Tree W (fun k => w.heap.size ≤ k) T a → Below w.heap.size w W → Calls Try.prog 99 #[.pointer (some a), .bool true] W fun e w' => ∃ v0_ : Value, e = .returned v0_ ∧ Kd.R (Kd.int .i64) 3 w' w.heap.size (fun _ => True) v0_ (notedTo (Tree.note (List.replicate 4 false) (T.vs true)) 4) ∧ Below w.heap.size w w') := by
      refine ⟨?_⟩
      rintro W a ⟨d, hT⟩ hW
      refine (tree_varList.calls d T a _ true W hT HG.out).mono ?_
      rintro e w' ⟨v, rfl, hr, hb⟩
      exact ⟨v, rfl, Kd.R_lower hr hW.size, below_step hW hb⟩
    generalize notedTo (Tree.note (List.replicate 4 false) (T.vs true)) 4 = l at HV ⊢
    go_enter Try.func57, Try.ntmps57
    go_wp2_with (first | (go_at_call 78; (with_reducible refine HT.out.mono ?_); rintro e w' ⟨v, rfl, hR, hb⟩; obtain ⟨a, rfl, ht⟩ := hR.out; have HB := Aside0.mk hb; have HTT := Aside0.mk ht; clear hR hb ht) | (go_at_call 99; (with_reducible refine (HV.out _ _ HTT.out HB.out).mono ?_); rintro e w2 ⟨v2, rfl, hr, hb⟩; have HR2 := Aside0.mk hr; have HB2 := Aside0.mk hb; clear hr hb))
    go_ret2
    exact ⟨_, rfl, HR2.out, HB2.out⟩

end Go.Proofs.Ytlneknaiimmfmaa.PFnExactSureVars
