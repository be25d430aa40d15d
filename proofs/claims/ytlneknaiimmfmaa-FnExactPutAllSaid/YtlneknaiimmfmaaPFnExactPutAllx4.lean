/- Functions of the program and of the reference as plain Lean functions, and what their calls come to; partly printed by a program, partly by hand; no condition beyond what each theorem says. -/
import Derived.Test.YtlneknaiimmfmaaPFnExactPutAllx0
import Derived.Test.YtlneknaiimmfmaaPFnExactPutAllx3
namespace Go.Proofs.Ytlneknaiimmfmaa.PFnExactPutAll
open Go.RowKit Go.Proofs.YtlneknaiimmfmaaW.PrintWords Go.Proofs.YtlneknaiimmfmaaW.PrintLast Go.Proofs.YtlneknaiimmfmaaW.PrintMore
attribute [local go_sem] max2_int min2_int max_two min_two max_three min_three max_four min_four   -- for this text's walks alone
set_option linter.unusedVariables false
set_option linter.unusedSimpArgs false

/-! ### impl.trees: function 83, by hand -/
theorem arityC (op : Int) (w : World) : Calls Try.prog 108 #[.int .i64 op] w fun e w' => e = .returned (.int .i64 (Tree.arity op)) ∧ Drawn0 w w' := by
  refine impl_arity.calls 1 op _ w ?_
  unfold impl_arity.f Tree.arity
  by_cases h1 : op = 1
  · subst h1; rfl
  · rw [if_neg h1]
    simp only [impl_arity.j0]
    by_cases h2 : op = 2
    · subst h2; rfl
    · rw [if_neg (by simpa using h2), if_neg (by omega : ¬ (op = 1 ∨ op = 2))]
      by_cases h3 : op = 3
      · rw [if_pos h3, if_pos h3]
      · rw [if_neg h3, if_neg h3]
        by_cases h4 : op = 11
        · rw [if_pos h4, if_pos h4]
        · rw [if_neg h4, if_neg h4]
theorem numOKC (op n : Int) (w : World) : Calls Try.prog 116 #[.int .i64 op, .int .i64 n] w fun e w' => e = .returned (.bool (Tree.numOK op n)) ∧ Drawn0 w w' := by
  refine impl_numOK.calls op n _ w ?_
  unfold impl_numOK.f Tree.numOK impl_isOp.f impl_within.f
  by_cases h1 : op = 1
  · rw [if_pos h1, if_pos h1]
  · rw [if_neg h1, if_neg h1]
    by_cases h2 : op = 2
    · rw [if_pos h2, if_pos h2]
      by_cases h3 : n ≥ 0
      · rw [if_pos h3]; congr 1; rw [decide_eq_decide]; omega
      · rw [if_neg h3, decide_eq_false (by omega)]
    · rw [if_neg h2, if_neg h2]
      by_cases h3 : op ≥ 1
      · rw [if_pos h3]
        by_cases h4 : op ≤ 11
        · rw [decide_eq_true h4, Option.bind_some, Option.bind_some, if_pos rfl]
          congr 1
          rw [Bool.eq_iff_iff]; simp; omega
        · rw [decide_eq_false h4, decide_eq_false (by omega)]; rfl
      · rw [if_neg h3, decide_eq_false (by omega)]; rfl
theorem withinC (a b c : Int) (w : World) : Calls Try.prog 84 #[.int .i64 a, .int .i64 b, .int .i64 c] w fun e w' => e = .returned (.bool (decide (b ≤ a ∧ a ≤ c))) ∧ Drawn0 w w' := by
  refine impl_within.calls a b c _ w ?_
  unfold impl_within.f
  by_cases h : a ≥ b
  · rw [if_pos h]; congr 1; rw [decide_eq_decide]; omega
  · rw [if_neg h, decide_eq_false (by omega)]
/-- A list of nodes as pairs. -/
def toP (l : List S87) : List (Int × Int) := l.map fun x => (x.f0, x.f1)
theorem toP_len (l : List S87) : (toP l).length = l.length := List.length_map _
theorem build_succ (l : List S87) (k : Nat) (hk : k < l.length) {s0 s : List Tree.Tr × List Tree.Tr} (h : Tree.build (toP (l.take k)) s0 = some s) : Tree.build (toP (l.take (k + 1))) s0 = Tree.step s ((l.getD k z87).f0, (l.getD k z87).f1) := by
  have e : l.take (k + 1) = l.take k ++ [l.getD k z87] := by
    rw [List.take_add_one, List.getD_eq_getElem?_getD, List.getElem?_eq_getElem hk]
    rfl
  rw [e]
  unfold toP at h ⊢
  rw [List.map_append, Tree.build_append, h]
  show (Tree.step s _).bind (Tree.build []) = _
  cases Tree.step s ((l.getD k z87).f0, (l.getD k z87).f1) <;> rfl
theorem build_fail (l : List S87) (k : Nat) (hk : k < l.length) {s0 s : List Tree.Tr × List Tree.Tr} (h : Tree.build (toP (l.take k)) s0 = some s) (hf : Tree.step s ((l.getD k z87).f0, (l.getD k z87).f1) = none) : Tree.build (toP l) s0 = none := by
  have h1 := build_succ l k hk h
  have e : toP l = toP (l.take (k + 1)) ++ toP (l.drop (k + 1)) := by unfold toP; rw [← List.map_append, List.take_append_drop]
  rw [e, Tree.build_append, h1, hf]
  rfl
theorem treesOf_none (l : List S87) (h : Tree.build (toP l) ([], []) = none) : Tree.treesOf (toP l) = none := by
  unfold Tree.treesOf
  split
  · rw [h]; rfl
  · rfl
/-- What trees hands back. -/
def TreesRes (w w' : World) (r : Option (List Tree.Tr)) (v : Value) : Prop :=
  match r with
  | none => v = .slice none 0 0
  | some Ts => ∃ az : List Addr, 0 < Ts.length ∧ Kd.R Tree.ptrK 91 w' w.heap.size (fun _ => True) v az ∧ Tree.Trees w' (fun k => w.heap.size ≤ k ∧ some k ≠ v.ownBlock) Ts az
set_option maxHeartbeats 8000000 in
set_option maxRecDepth 100000 in
theorem impl_trees.calls (A0 : Option Addr) (c0 : Nat) (l0 : List S87) (w : World) (hr0 : Kd.C k87 w A0 l0.length l0) (hc0 : l0.length ≤ c0) :
    Calls Try.prog 83 #[.slice A0 l0.length c0] w fun e w' => ∃ v : Value, e = .returned v ∧ Aside0 (TreesRes w w' (Tree.treesOf (toP l0)) v) ∧ Below w.heap.size w w' := by
  have HR0 := Aside0.mk hr0
  have HC0 := Aside0.mk hc0
  clear hr0 hc0
  have HB := Aside0.mk (Below.refl w.heap.size w)
  by_cases hlen : 1 ≤ (l0.length : Int) ∧ (l0.length : Int) ≤ 40
  · have hW := fun W => withinC (l0.length : Int) 1 40 W
    rw [decide_eq_true hlen] at hW
    have HLEN := Aside0.mk hlen
    clear hlen
    go_enter Try.func83, Try.ntmps83
    go_wp2_with (first | (go_at_call 84; refine (hW _).mono ?_; rintro e w' ⟨rfl, ⟨q, rfl⟩⟩) | ((with_reducible refine gate_dst (N := 13) rfl ?_); refine Kd.R_lit Tree.ptrK _ 91 ?hg (N := 13) ?hd (xs := ([] : List Addr)) (inner := []) (ok := fun _ => True) (okp := fun _ => True) ?hr ?hp (fun _ hk => hk) trivial (Below.refl _ _) (Nat.le_refl _) (by simp) ?_; (case hd => rfl); (case hg => rfl); (case hr => first | (go_simp; done) | (go_simp; rfl)); (case hp => exact (Reps.none _ _)); intro v13 w13 ho13 hb13 hg_ hnew_; clear hg_ hnew_; have HO13 := Aside0.mk ho13; have HB13 := Aside0.mk hb13; clear ho13 hb13) | ((with_reducible refine gate_dst (N := 14) rfl ?_); refine Kd.R_lit Tree.ptrK _ 91 ?hg (N := 14) ?hd (xs := ([] : List Addr)) (inner := []) (ok := fun _ => True) (okp := fun _ => True) ?hr ?hp (fun _ hk => hk) trivial (Below.refl _ _) (Nat.le_refl _) (by simp) ?_; (case hd => rfl); (case hg => rfl); (case hr => first | (go_simp; done) | (go_simp; rfl)); (case hp => exact (Reps.none _ _)); intro v14 w14 ho14 hb14 hg14_ hnew14_; clear hg14_ hnew14_; have HO14 := Aside0.mk ho14; have HB14 := Aside0.mk hb14; clear ho14 hb14))
    go_loopg [3, 4, 17] l0.length (fun gg v3 v4 s17 wr => ∃ x : Int, s17 = .int .i64 x ∧ Aside0 (0 ≤ x ∧ x ≤ (l0.length : Int) ∧ l0.length - x.toNat ≤ gg ∧ ∃ s p o, Tree.build (toP (l0.take x.toNat)) ([], []) = some s ∧ Tree.St w wr v3 v4 s p o))
    case atStart =>
      refine ⟨0, rfl, ⟨by omega, by omega, by omega, ([], []), [], [], rfl, ?_⟩⟩
      have hb14 : Below w.heap.size w w14 := below_step (below_step (Below.refl _ _ |> fun h => pw_below_drewN h q) HB13.out) HB14.out
      have hs : w.heap.size ≤ w13.heap.size := HB13.out.size
      refine ⟨Kd.R_grown (Kd.R_lower HO13.out (Nat.le_refl _)) (Tree.grown_below HB14.out) (fun _ _ => by simp), Kd.R_lower HO14.out hs, fun k hk he => ?_, Tree.Trees.nil _, Tree.Trees.nil _, hb14⟩
      have h1 := Kd.R_lt HO13.out k hk
      have h2 := Kd.R_base HO14.out k he
      omega
    case round =>
      obtain ⟨x, rfl, A⟩ := hrel
      by_cases c2 : x < (l0.length : Int)
      · obtain ⟨h0, hxl, hgg, s, p, o, hbuild, hst⟩ := A.out
        obtain ⟨A3, c3, rfl, hc3, hC3⟩ := Tree.row_slice hst.r3
        obtain ⟨A4, c4, rfl, hc4, hC4⟩ := Tree.row_slice hst.r4
        have HST := Aside0.mk hst
        have HBU := Aside0.mk hbuild
        have HGG := Aside0.mk hgg
        have HC3 := Aside0.mk hC3
        have HCC3 := Aside0.mk hc3
        clear A hst hbuild hgg hxl hc3 hC3 hc4 hC4
        obtain ⟨ad, e1, hx0, hx1⟩ := at_T87 HR0.out x h0 c2
        cases e1
        replace hx0 := (HST.out.hb.cell (World.block_lt_of_cell? w _ hx0)).trans hx0
        replace hx1 := (HST.out.hb.cell (World.block_lt_of_cell? w _ hx1)).trans hx1
        have hN := fun W => numOKC (rd_T87 l0 x).f0 (rd_T87 l0 x).f1 W
        have hA := fun W => arityC (rd_T87 l0 x).f0 W
        have H0 := Aside0.mk h0
        have C2 := Aside0.mk c2
        replace h0 := eq_true h0
        replace c2 := eq_true c2
        cases hnum : Tree.numOK (rd_T87 l0 x).f0 (rd_T87 l0 x).f1 with
        | false =>
          rw [hnum] at hN
          have HNUM := Aside0.mk hnum
          clear hnum
          go_wp2_with (first | ((with_reducible refine gate_dst (N := 6) rfl ?_); refine box_event ?hg (N := 6) ?hd (cs := #[.int .i64 0, .int .i64 0]) (t := 87) ?hr ?_; (case hd => rfl); (case hg => rfl); (case hr => first | (go_simp; done) | (go_simp; rfl)); intro gb hg w6 hbox hb; have HBOX := Aside0.mk hbox; have HBB := Aside0.mk hb; have HGB := Aside0.mk hg; have hcz7_0 : w6.cell? ⟨gb, 0, none⟩ = some (.int .i64 0) := (blk_cell HBOX.out 0).trans rfl; have hcz7_1 : w6.cell? ⟨gb, 1, none⟩ = some (.int .i64 0) := (blk_cell HBOX.out 1).trans rfl; have hfz7_0 := blk_frozen HBOX.out 0; have hfz7_1 := blk_frozen HBOX.out 1; clear hbox hb hg) | (go_at_call 116; refine (hN _).mono ?_; rintro e w' ⟨rfl, ⟨q, rfl⟩⟩) | (go_at_call 108; refine (hA _).mono ?_; rintro e w' ⟨rfl, ⟨q', rfl⟩⟩))
          go_ret
          have hgb : wr.heap.size ≤ gb := Nat.le_of_eq HGB.out.symm
          refine ⟨.slice none 0 0, rfl, ⟨?_⟩, below_step HST.out.hb (by repeat (first | exact HBB.out | apply pw_below_drewN | refine below_set ?_ hgb))⟩
          rw [treesOf_none l0 (build_fail l0 x.toNat (by have := H0.out; have := C2.out; omega) HBU.out (if_neg ?_))]
          · rfl
          · rintro ⟨h1, -⟩; exact absurd (HNUM.out.symm.trans h1) (by simp)
        | true =>
          rw [hnum] at hN
          have HNUM := Aside0.mk hnum
          clear hnum
          by_cases har : (p.length : Int) < Tree.arity (rd_T87 l0 x).f0
          · have HAR := Aside0.mk har
            replace har := eq_true har
            go_wp2_with (first | ((with_reducible refine gate_dst (N := 6) rfl ?_); refine box_event ?hg (N := 6) ?hd (cs := #[.int .i64 0, .int .i64 0]) (t := 87) ?hr ?_; (case hd => rfl); (case hg => rfl); (case hr => first | (go_simp; done) | (go_simp; rfl)); intro gb hg w6 hbox hb; have HBOX := Aside0.mk hbox; have HBB := Aside0.mk hb; have HGB := Aside0.mk hg; have hcz7_0 : w6.cell? ⟨gb, 0, none⟩ = some (.int .i64 0) := (blk_cell HBOX.out 0).trans rfl; have hcz7_1 : w6.cell? ⟨gb, 1, none⟩ = some (.int .i64 0) := (blk_cell HBOX.out 1).trans rfl; have hfz7_0 := blk_frozen HBOX.out 0; have hfz7_1 := blk_frozen HBOX.out 1; clear hbox hb hg) | (go_at_call 116; refine (hN _).mono ?_; rintro e w' ⟨rfl, ⟨q, rfl⟩⟩) | (go_at_call 108; refine (hA _).mono ?_; rintro e w' ⟨rfl, ⟨q', rfl⟩⟩))
            go_ret
            have hgb : wr.heap.size ≤ gb := Nat.le_of_eq HGB.out.symm
            refine ⟨.slice none 0 0, rfl, ⟨?_⟩, below_step HST.out.hb (by repeat (first | exact HBB.out | apply pw_below_drewN | refine below_set ?_ hgb))⟩
            rw [treesOf_none l0 (build_fail l0 x.toNat (by have := H0.out; have := C2.out; omega) HBU.out (if_neg ?_))]
            · rfl
            · rintro ⟨-, h2⟩; have h3 := HAR.out; rw [HST.out.t3.1] at h3; exact absurd h2 (by show ¬ _; exact Int.not_le.2 h3)
          · have HAR := Aside0.mk har
            replace har := eq_false har
            go_wp2_with (first | ((with_reducible refine gate_dst (N := 6) rfl ?_); refine box_event ?hg (N := 6) ?hd (cs := #[.int .i64 0, .int .i64 0]) (t := 87) ?hr ?_; (case hd => rfl); (case hg => rfl); (case hr => first | (go_simp; done) | (go_simp; rfl)); intro gb hg w6 hbox hb; have HBOX := Aside0.mk hbox; have HBB := Aside0.mk hb; have HGB := Aside0.mk hg; have hcz7_0 : w6.cell? ⟨gb, 0, none⟩ = some (.int .i64 0) := (blk_cell HBOX.out 0).trans rfl; have hcz7_1 : w6.cell? ⟨gb, 1, none⟩ = some (.int .i64 0) := (blk_cell HBOX.out 1).trans rfl; have hfz7_0 := blk_frozen HBOX.out 0; have hfz7_1 := blk_frozen HBOX.out 1; clear hbox hb hg) | (go_at_call 116; refine (hN _).mono ?_; rintro e w' ⟨rfl, ⟨q, rfl⟩⟩) | (go_at_call 108; refine (hA _).mono ?_; rintro e w' ⟨rfl, ⟨q', rfl⟩⟩))
            rename_i qa K9 aK9
            have hm0 : 0 ≤ Tree.arity (rd_T87 l0 x).f0 := (Tree.arity_range _).1
            obtain ⟨m, hm⟩ : ∃ m : Nat, m = p.length - (Tree.arity (rd_T87 l0 x).f0).toNat := ⟨_, rfl⟩
            have hmle : m ≤ p.length := by omega
            have hwr : wrap64 ((p.length : Int) - Tree.arity (rd_T87 l0 x).f0) = (m : Int) := by
              have := HC3.out.2.1
              have := HAR.out
              unfold wrap64
              omega
            rw [hwr]
            have hgb : wr.heap.size ≤ gb := Nat.le_of_eq HGB.out.symm
            have hb10 : Below wr.heap.size wr (((w6.setCell ⟨gb, 0, none⟩ (.int .i64 (rd_T87 l0 x).f0)).setCell ⟨gb, 1, none⟩ (.int .i64 (rd_T87 l0 x).f1)).drewN (q + qa + q')) := pw_below_drewN (below_set (below_set HBB.out hgb) hgb) _
            have hlt : gb < w6.heap.size := World.block_lt_of_cell? w6 _ hcz7_0
            have hc10 : (((w6.setCell ⟨gb, 0, none⟩ (.int .i64 (rd_T87 l0 x).f0)).setCell ⟨gb, 1, none⟩ (.int .i64 (rd_T87 l0 x).f1)).drewN (q + qa + q')).cell? ⟨gb, 0, none⟩ = some (.int .i64 (rd_T87 l0 x).f0) := by go_simp
            have hc11 : (((w6.setCell ⟨gb, 0, none⟩ (.int .i64 (rd_T87 l0 x).f0)).setCell ⟨gb, 1, none⟩ (.int .i64 (rd_T87 l0 x).f1)).drewN (q + qa + q')).cell? ⟨gb, 1, none⟩ = some (.int .i64 (rd_T87 l0 x).f1) := by go_simp
            generalize (((w6.setCell ⟨gb, 0, none⟩ (.int .i64 (rd_T87 l0 x).f0)).setCell ⟨gb, 1, none⟩ (.int .i64 (rd_T87 l0 x).f1)).drewN (q + qa + q')) = W10 at hb10 hc10 hc11 ⊢
            have HST10 := Aside0.mk (HST.out.below hb10)
            have HB10 := Aside0.mk hb10
            clear hb10 HST hcz7_0 hcz7_1 hfz7_0 hfz7_1 hx0 hx1 hlt hgb
            have HM := Aside0.mk hm
            have HMLE := Aside0.mk hmle
            clear hm hmle hwr hm0
            have hs0 : (0 ≤ (m : Int)) = True := eq_true (by omega)
            have hs1 : ((m : Int) ≤ (p.length : Int)) = True := eq_true (by have := HMLE.out; omega)
            have hs2 : ((p.length : Int) ≤ (c3 : Int)) = True := eq_true (by have := HCC3.out; omega)
            have hlt10 : gb < W10.heap.size := World.block_lt_of_cell? W10 _ hc10
            have hclone : ∀ W, Below W10.heap.size W10 W → Calls Try.prog 117 #[.slice (if c3 = m then A3 else A3.map (fun x => x.add m)) (p.length - m) (c3 - m)] W fun e w' => ∃ (A5 : Option Addr) (c5 : Nat), e = .returned (.slice A5 (p.length - m) c5) ∧ Aside0 (Kd.R Tree.ptrK 91 w' W10.heap.size (fun _ => True) (.slice A5 (p.length - m) c5) (p.drop m)) ∧ w'.cell? ⟨gb, 0, none⟩ = some (.int .i64 (rd_T87 l0 x).f0) ∧ w'.cell? ⟨gb, 1, none⟩ = some (.int .i64 (rd_T87 l0 x).f1) ∧ Below W10.heap.size W10 w' := by
              intro W hW
              have hc := Kd.C_drop (Kd.C_below (Tree.row_C HST10.out.r3) hW) HMLE.out HCC3.out
              rw [show m * Tree.ptrK.sz = m from Nat.mul_one m] at hc
              have hl : (p.drop m).length = p.length - m := List.length_drop
              rw [← hl]
              refine (slices_Clone_ptr.calls _ _ _ _ hc (by rw [hl]; have := HCC3.out; omega) (by rw [hl]; have := HM.out; have := (Tree.arity_range (rd_T87 l0 x).f0).2; have := HAR.out; omega)).mono ?_
              rintro e w' ⟨v0, rfl, hR, hb⟩
              have hb' := below_step hW hb
              obtain ⟨A5, c5, rfl, -, -⟩ := Tree.row_slice hR
              rw [hl] at hR ⊢
              exact ⟨A5, c5, rfl, ⟨Kd.R_lower hR hW.size⟩, (hb'.cell hlt10).trans hc10, (hb'.cell hlt10).trans hc11, hb'⟩
            clear hlt10
            go_region_held3 (fun w' => w'.cell? ⟨gb, 0, none⟩ = some (.int .i64 (rd_T87 l0 x).f0) ∧ w'.cell? ⟨gb, 1, none⟩ = some (.int .i64 (rd_T87 l0 x).f1) ∧ Below W10.heap.size W10 w') (first | (refine ⟨?_, ?_, Below.drew (Below.refl _ _)⟩ <;> go_keep) | exact ⟨by assumption, by assumption, by assumption⟩ | (refine ⟨?_, ?_, ?_⟩ <;> first | (exact below_alloc (by assumption) _) | go_keep) | go_keep) ((go_at_call 117; refine (hclone _ (Below.drew (Below.refl _ _))).mono ?_; rintro e wc ⟨A5, c5, rfl, HRc, hcc0, hcc1, hBc⟩; (try dsimp only)))
            have hn := HST10.out.nodeT (op := (rd_T87 l0 x).f0) (n := (rd_T87 l0 x).f1) (W2 := wc.alloc (.cells #[.int .i64 (rd_T87 l0 x).f0, .int .i64 (rd_T87 l0 x).f1, .slice A5 (p.length - m) c5] 124)) (g := wc.heap.size) HRc.out hBc (below_alloc (Below.refl _ _) _) (by go_simp) (by go_simp) (by go_simp) hBc.size HMLE.out
            generalize wc.alloc (.cells #[.int .i64 (rd_T87 l0 x).f0, .int .i64 (rd_T87 l0 x).f1, .slice A5 (p.length - m) c5] 124) = W12 at hn ⊢
            generalize wc.heap.size = gm at hn ⊢
            generalize (if c3 = m then A3 else A3.map (fun x => x.add m)) = A47
            have HS12 := Aside0.mk hn.1
            have HT12 := Aside0.mk hn.2
            clear hn hc10 hc11 hcc0 hcc1 hBc hclone HRc
            have hs3 : ((m : Int) ≤ (c3 : Int)) = True := eq_true (by have := HMLE.out; have := HCC3.out; omega)
            have HBL := Aside0.mk (Tree.build_len _ _ _ HBU.out)
            have HPL := Aside0.mk HST10.out.t3.1
            have HOL := Aside0.mk HST10.out.t4.1
            have hX : x.toNat ≤ l0.length := by have := C2.out; omega
            have HX := Aside0.mk hX
            clear hX
            go_wp2_with (first | ((with_reducible refine gate_builtin (b := .append) (xs := #[.tmp 53, .tmp 55]) rfl ?_); at_builtin; refine Kd.R_append Tree.ptrK (w0 := w) w.heap.size rfl (.tmp 53) (.tmp 55) 95 91 (.pointer none) 8 rfl Try.underlying95 infoPtr rfl (by decide) (by omega) (.slice A3 m c3) (p.take m) ⟨gm, 0, none⟩ [.pointer (some ⟨gm, 0, none⟩)] (fun _ => True) (fun _ => False) rfl rfl ?aP (fun _ hk => hk.elim) ?aF ?aO ?aB ?aS ?aL ?_; (case aP => exact rfl); (case aF => exact (fun _ _ => trivial)); (case aO => exact HS12.out.r3); (case aB => exact HS12.out.hb); (case aS => exact HS12.out.hb.size); (case aL => have := HBL.out; have := HPL.out; have := HOL.out; have := HX.out; have := HLEN.out; have := HM.out; simp [toP] at *; omega); intro v31 w31 ho hb hg hat; have h31 := HS12.out.push3 HT12.out ho hg hat hb; have HS13 := Aside0.mk h31.1; have HT13 := Aside0.mk h31.2; clear ho hb hg hat h31) | ((with_reducible refine gate_builtin (b := .append) (xs := #[.tmp 57, .tmp 59]) rfl ?_); at_builtin; refine Kd.R_append Tree.ptrK (w0 := w) w.heap.size rfl (.tmp 57) (.tmp 59) 95 91 (.pointer none) 8 rfl Try.underlying95 infoPtr rfl (by decide) (by omega) (.slice A4 o.length c4) o ⟨gm, 0, none⟩ [.pointer (some ⟨gm, 0, none⟩)] (fun _ => True) (fun _ => False) rfl rfl ?aP (fun _ hk => hk.elim) ?aF ?aO ?aB ?aS ?aL ?_; (case aP => exact rfl); (case aF => exact (fun _ _ => trivial)); (case aO => exact HS13.out.r4); (case aB => exact HS13.out.hb); (case aS => exact HS13.out.hb.size); (case aL => have := HBL.out; have := HPL.out; have := HOL.out; have := HX.out; have := HLEN.out; have := HM.out; simp [toP] at *; omega); intro v41 w41 ho hb hg hat; have h41 := HS13.out.push4 HT13.out ho hg hat hb; have HS14 := Aside0.mk h41; clear ho hb hg hat h41))
            go_roundg (l0.length - (x.toNat + 1))
            case measure => have := HGG.out; have := C2.out; have := H0.out; omega
            case rel =>
              have e1 : wrap64 (x + 1) = x + 1 := by have := HLEN.out; have := C2.out; have := H0.out; unfold wrap64; omega
              have hx1' : (x + 1).toNat = x.toNat + 1 := by have := H0.out; omega
              refine ⟨x + 1, by rw [e1], ⟨by have := H0.out; omega, by have := C2.out; omega, by rw [hx1']; exact Nat.le_refl _, _, _, _, ?_, HS14.out⟩⟩
              rw [hx1', build_succ l0 x.toNat (by have := H0.out; have := C2.out; omega) HBU.out]
              unfold Tree.step
              have ha : Tree.arity (rd_T87 l0 x).f0 ≤ (s.1.length : Int) := by rw [← HPL.out]; exact HAR.out
              refine (if_pos ⟨HNUM.out, ha⟩).trans ?_
              rw [HM.out, HPL.out]
              rfl
      · obtain ⟨h0, hxl, hgg, s, p, o, hbuild, hst⟩ := A.out
        have hx : x = (l0.length : Int) := by omega
        subst hx
        obtain ⟨A3, c3, rfl, hc3, hC3⟩ := Tree.row_slice hst.r3
        have HST := Aside0.mk hst
        have hbl : Tree.build (toP l0) ([], []) = some s := by
          have : ((l0.length : Int)).toNat = l0.length := by omega
          rw [this, List.take_length] at hbuild
          exact hbuild
        have HBU := Aside0.mk hbl
        have HPL := Aside0.mk hst.t3.1
        clear A hst hbuild hgg hxl hc3 hC3 hbl
        by_cases hp : p.length = 1
        · have HP := Aside0.mk hp
          replace hp : (p.length : Int) = 1 := by omega
          go_wp2
          go_ret
          refine ⟨_, rfl, ⟨?_⟩, HST.out.hb⟩
          unfold Tree.treesOf
          rw [if_pos (by rw [toP_len]; have := HLEN.out; omega), HBU.out]
          show TreesRes _ _ (if s.1.length = 1 then some s.2 else none) _
          rw [if_pos (by rw [← HPL.out]; exact HP.out)]
          refine ⟨o, ?_, HST.out.r4, HST.out.t4.imp (fun k hk => ⟨hk.1, hk.2.2⟩)⟩
          rw [(Tree.build_len _ _ _ HBU.out).2, toP_len]
          have := HLEN.out
          simp
          omega
        · have HP := Aside0.mk hp
          have hp1 : ((p.length : Int) != 1) = true := by rw [bne_iff_ne]; omega
          clear hp
          go_wp2
          go_ret
          refine ⟨.slice none 0 0, rfl, ⟨?_⟩, HST.out.hb⟩
          unfold Tree.treesOf
          rw [if_pos (by rw [toP_len]; have := HLEN.out; omega), HBU.out]
          show TreesRes _ _ (if s.1.length = 1 then some s.2 else none) _
          rw [if_neg (by rw [← HPL.out]; exact HP.out)]
          rfl
  · have hW := fun W => withinC (l0.length : Int) 1 40 W
    rw [decide_eq_false hlen] at hW
    have HLEN := Aside0.mk hlen
    clear hlen
    go_enter Try.func83, Try.ntmps83
    go_wp2_with (go_at_call 84; refine (hW _).mono ?_; rintro e w' ⟨rfl, ⟨q, rfl⟩⟩)
    go_ret
    refine ⟨.slice none 0 0, rfl, ⟨?_⟩, by repeat (first | (with_reducible first | exact HB.out | apply below_alloc | apply pw_below_drewN | apply below_drew1) | exact HB.out)⟩
    unfold Tree.treesOf
    rw [if_neg (by have := HLEN.out; simp [toP]; omega)]
    rfl

/-! ### impl.treeOf: function 78, by hand -/
/-- What treeOf hands back. -/
def TreeRes (w w' : World) (r : Option Tree.Tr) (v : Value) : Prop :=
  match r with
  | none => v = .pointer none
  | some T => ∃ a : Addr, v = .pointer (some a) ∧ Tree.Tree w' (fun k => w.heap.size ≤ k) T a
set_option maxHeartbeats 8000000 in
set_option maxRecDepth 100000 in
theorem impl_treeOf.calls (A0 : Option Addr) (c0 : Nat) (l0 : List S87) (w : World) (hr0 : Kd.C k87 w A0 l0.length l0) (hc0 : l0.length ≤ c0) :
    Calls Try.prog 78 #[.slice A0 l0.length c0] w fun e w' => ∃ v : Value, e = .returned v ∧ Aside0 (TreeRes w w' (Tree.treeOf (toP l0)) v) ∧ Below w.heap.size w w' := by
  have HT := Aside0.mk (impl_trees.calls A0 c0 l0 w hr0 hc0)
  clear hr0 hc0
  unfold Tree.treeOf
  cases hT : Tree.treesOf (toP l0) with
  | none =>
    rw [hT] at HT
    clear hT
    have hnil := fun W => Lib.run_eql_slice_nil (P := Try.prog) W 95 91 none 0 0 0 0 Try.underlying95
    go_enter Try.func78, Try.ntmps78
    go_wp2_with (go_at_call 83; refine HT.out.mono ?_; rintro e w' ⟨v, rfl, hR, hb⟩; obtain rfl := hR.out; have HB := Aside0.mk hb; clear hR hb)
    go_ret
    exact ⟨_, rfl, ⟨rfl⟩, HB.out⟩
  | some Ts =>
    rw [hT] at HT
    clear hT
    have HT2 : Aside0 (Calls Try.prog 83 #[.slice A0 l0.length c0] w fun e w' => ∃ (ad : Addr) (n c : Nat) (a : Addr), e = .returned (.slice (some ad) n c) ∧ 0 < n ∧ w'.cell? (ad.add (n - 1)) = some (.pointer (some a)) ∧ Aside0 (n ≤ 9223372036854775807) ∧ Aside0 (∃ T, Ts.getLast? = some T ∧ Tree.Tree w' (fun k => w.heap.size ≤ k) T a) ∧ Aside0 (Below w.heap.size w w')) := by
      refine ⟨HT.out.mono ?_⟩
      rintro e w' ⟨v, rfl, hR, hb⟩
      obtain ⟨az, hpos, hRR, hTs⟩ := hR.out
      obtain ⟨A, c, rfl, hc, hC⟩ := Tree.row_slice hRR
      have hl : az.length = Ts.length := hTs.1
      obtain ⟨ad, rfl, hcell⟩ := Tree.ptr_at hC (az.length - 1) (by omega)
      refine ⟨ad, az.length, c, _, rfl, by omega, hcell, ⟨hC.2.1⟩, ⟨Ts[Ts.length - 1], ?_, ?_⟩, ⟨hb⟩⟩
      · rw [List.getLast?_eq_getElem?, List.getElem?_eq_getElem (by omega)]
      · rw [hl]
        exact (hTs.2 (Ts.length - 1) (by omega)).imp (fun k hk => hk.1)
    clear HT
    have hnil := fun W ad n c => Lib.run_eql_slice_nil (P := Try.prog) W 95 91 (some ad) n c 0 0 Try.underlying95
    go_enter Try.func78, Try.ntmps78
    go_wp2_with (go_at_call 83; refine HT2.out.mono ?_; rintro e w' ⟨ad, n, c, a, rfl, hn, hcell, HN, HTT, HB⟩; have hw : wrap64 ((n : Int) - 1) = ((n - 1 : Nat) : Int) := (by have := HN.out; unfold wrap64; omega); have hi0 : (0 ≤ ((n - 1 : Nat) : Int)) = True := eq_true (by omega); have hi1 : (((n - 1 : Nat) : Int) < (n : Int)) = True := eq_true (by omega); have hn' := Aside0.mk hn; clear hn)
    go_ret
    obtain ⟨T, e1, e2⟩ := HTT.out
    refine ⟨_, rfl, ⟨?_⟩, HB.out⟩
    show TreeRes _ _ Ts.getLast? _
    rw [e1]
    exact ⟨a, rfl, e2⟩

/-! ### impl.GoodTerm: function 23, by hand -/
set_option maxHeartbeats 8000000 in
set_option maxRecDepth 100000 in
theorem impl_GoodTerm.told (A0 : Option Addr) (c0 : Nat) (l0 : List S87) (w : World) (hr0 : Kd.C k87 w A0 l0.length l0) (hc0 : l0.length ≤ c0) :
    Calls Try.prog 23 #[.slice A0 l0.length c0] w fun e w' => e = .returned (.bool (Tree.treeOf (toP l0)).isSome) ∧ Below w.heap.size w w' := by
  have HT := Aside0.mk (impl_treeOf.calls A0 c0 l0 w hr0 hc0)
  clear hr0 hc0
  cases hT : Tree.treeOf (toP l0) with
  | none =>
    rw [hT] at HT
    clear hT
    go_enter Try.func23, Try.ntmps23
    go_wp2_with (go_at_call 78; refine HT.out.mono ?_; rintro e w' ⟨v, rfl, hR, hb⟩; obtain rfl := hR.out; have HB := Aside0.mk hb; clear hR hb)
    go_ret
    exact ⟨rfl, HB.out⟩
  | some T =>
    rw [hT] at HT
    clear hT
    go_enter Try.func23, Try.ntmps23
    go_wp2_with (go_at_call 78; refine HT.out.mono ?_; rintro e w' ⟨v, rfl, hR, hb⟩; obtain ⟨a, rfl, -⟩ := hR.out; have HB := Aside0.mk hb; clear hR hb)
    go_ret
    exact ⟨rfl, HB.out⟩
def impl_GoodTerm.f (l0 : List S87) : Option Bool := some (Tree.treeOf (toP l0)).isSome
theorem impl_GoodTerm.calls (A0 : Option Addr) (c0 : Nat) (l0 : List S87) (r : Bool) (w : World) (hr0 : Kd.C k87 w A0 l0.length l0) (hc0 : l0.length ≤ c0) (h : impl_GoodTerm.f l0 = some r) :
    Calls Try.prog 23 #[.slice A0 l0.length c0] w fun e w' => e = .returned (.bool r) ∧ Below w.heap.size w w' := by
  injection h with h
  subst h
  exact impl_GoodTerm.told A0 c0 l0 w hr0 hc0

/-! ### impl.goodList: function 101, by hand -/
/-- What goodList answers. -/
def goodF (l : List S87) : List S87 × Bool := if (Tree.treeOf (toP l)).isSome = true then (l, true) else ([], false)
set_option maxHeartbeats 8000000 in
set_option maxRecDepth 100000 in
theorem goodList_calls (A0 : Option Addr) (c0 : Nat) (l0 : List S87) (w : World) (hr0 : Kd.C k87 w A0 l0.length l0) (hc0 : l0.length ≤ c0) :
    Calls Try.prog 101 #[.slice A0 l0.length c0] w fun e w' => e = .returned (.tuple #[if (Tree.treeOf (toP l0)).isSome = true then .slice A0 l0.length c0 else .slice none 0 0, .bool (Tree.treeOf (toP l0)).isSome]) ∧ Below w.heap.size w w' := by
  have HG := Aside0.mk (impl_GoodTerm.told A0 c0 l0 w hr0 hc0)
  clear hr0 hc0
  generalize (Tree.treeOf (toP l0)).isSome = b at HG ⊢
  cases b with
  | true =>
    rw [if_pos rfl]
    go_enter Try.func101, Try.ntmps101
    go_wp2_with (go_at_call 23; (with_reducible refine HG.out.mono ?_); rintro e w' ⟨rfl, hb⟩; have HB := Aside0.mk hb; clear hb)
    go_ret2
    exact ⟨rfl, HB.out⟩
  | false =>
    rw [if_neg (by simp)]
    go_enter Try.func101, Try.ntmps101
    go_wp2_with (go_at_call 23; (with_reducible refine HG.out.mono ?_); rintro e w' ⟨rfl, hb⟩; have HB := Aside0.mk hb; clear hb)
    go_ret2
    exact ⟨rfl, HB.out⟩
/-- The same, behind a row of one's own. -/
theorem goodList_row (v : Value) (l : List S87) (b0 : Nat) (w W : World) (hR : Kd.R k87 87 W w.heap.size (fun _ => True) v l) (hW : Below w.heap.size w W) :
    Calls Try.prog 101 #[v] W fun e w' => ∃ v0 : Value, e = .returned (.tuple #[v0, .bool (goodF l).2]) ∧ Kd.R k87 87 w' w.heap.size (fun _ => True) v0 (goodF l).1 ∧ Below w.heap.size w w' := by
  obtain ⟨A, c, rfl, hc, hC⟩ := Kd.R_reads hR
  refine (goodList_calls A c l W hC hc).mono ?_
  rintro e w' ⟨rfl, hb⟩
  have hR' := Kd.R_below hR hb
  unfold goodF
  cases h : (Tree.treeOf (toP l)).isSome with
  | true => exact ⟨_, rfl, by simpa using hR', below_step hW hb⟩
  | false => exact ⟨_, rfl, by simpa using Kd.R_nil _ _ _ _ _, below_step hW hb⟩

/-! ### slices.IndexFunc[[][]impl.Node,[]impl.Node]: function 133, by hand -/
theorem at_rowsB {w : World} {A : Option Addr} {n : Nat} {ls : List (List S87)} (h : Kd.C (Kd.slice 87 k87) w A n ls) (i : Nat) (hi : i < n) : ∃ ad A0 c0, A = some ad ∧ w.cell? (ad.add i) = some (.slice A0 (ls.getD i []).length c0) ∧ (ls.getD i []).length ≤ c0 ∧ Kd.C k87 w A0 (ls.getD i []).length (ls.getD i []) := by
  obtain ⟨ad, c, e, _, hK, hc0⟩ := Kd.C_get h ([] : List S87) (i : Int) (by omega) (by omega)
  rw [Int.toNat_natCast] at hK hc0
  have hc : ∀ j u, c[j]? = some u → w.cell? (ad.add (i * 1 + j)) = some u := hc0
  obtain ⟨A0, c0, rfl, l0, g0⟩ := hK
  exact ⟨ad, A0, c0, e, by have hq := hc 0 _ rfl; rwa [Nat.mul_one, Nat.add_zero] at hq, l0, g0⟩
set_option maxHeartbeats 2000000 in
theorem IndexFunc_rows (A0 : Option Addr) (c0 : Nat) (ls : List (List S87)) (g : Nat) (lb : Array Value) (p : List S87 → Bool) (w : World) (hr0 : Kd.C (Kd.slice 87 k87) w A0 ls.length ls) (hc0 : ls.length ≤ c0)
    (eg : ∀ args w, (callFunc g args).run Try.prog w = .ok (.enter g args) w)
    (hp : ∀ (W : World) (A : Option Addr) (c : Nat) (l : List S87), Below w.heap.size w W → Kd.C k87 W A l.length l → l.length ≤ c → Calls Try.prog g (#[.slice A l.length c] ++ lb) W fun e w' => e = .returned (.bool (p l)) ∧ Below w.heap.size w w') :
    Calls Try.prog 133 #[.slice A0 ls.length c0, .func (.func g) #[] lb] w fun e w' => e = .returned (.int .i64 (Gen.idxP p ls)) ∧ Below w.heap.size w w' := by
  have HR0 := Aside0.mk hr0
  have HC0 := Aside0.mk hc0
  have HP := Aside0.mk hp
  clear hr0 hc0 hp
  have hlen : ls.length ≤ 9223372036854775807 := HR0.out.2.1
  have HLN := Aside0.mk hlen
  clear hlen
  go_enter Try.func133, Try.ntmps133
  go_wp2
  go_loopg [5, 8] ls.length (fun gg _ s8 wr => ∃ i : Nat, s8 = .int .i64 (i : Int) ∧ Aside0 (i ≤ ls.length ∧ ls.length - i ≤ gg ∧ ∀ j, j < i → p (ls.getD j []) = false) ∧ Aside0 (Below w.heap.size w wr))
  case atStart => exact ⟨0, rfl, ⟨Nat.zero_le _, Nat.le_refl _, fun j hj => absurd hj (Nat.not_lt_zero _)⟩, ⟨Below.refl _ _⟩⟩
  case round =>
    obtain ⟨i, rfl, A1, B1⟩ := hrel
    by_cases c2 : i < ls.length
    · obtain ⟨ad, A2, c2', e1, hcell, hlc, hC⟩ := at_rowsB (Kd.C_below HR0.out B1.out) i c2
      cases e1
      have hcall := HP.out wr A2 c2' (ls.getD i []) B1.out hC hlc
      cases hq : p (ls.getD i []) with
      | true =>
        rw [hq] at hcall
        have HQ := Aside0.mk hq
        have C2 := Aside0.mk c2
        have A1' := A1
        generalize ls.getD i [] = x at hcell hcall
        have c2t : ((i : Int) < (ls.length : Int)) = True := eq_true (by omega)
        clear hq c2 hlc hC
        go_wp2_with (go_at_fn g; refine hcall.mono ?_; rintro e w' ⟨rfl, hb⟩; have HB := Aside0.mk hb; clear hb)
        go_ret
        refine ⟨?_, HB.out⟩
        rw [Gen.idxP_hitD p ls [] i C2.out A1.out.2.2 HQ.out]
        rfl
      | false =>
        rw [hq] at hcall
        have HQ := Aside0.mk hq
        have C2 := Aside0.mk c2
        generalize ls.getD i [] = x at hcell hcall
        have c2t : ((i : Int) < (ls.length : Int)) = True := eq_true (by omega)
        clear hq c2 hlc hC
        go_wp2_with (go_at_fn g; refine hcall.mono ?_; rintro e w' ⟨rfl, hb⟩; have HB := Aside0.mk hb; clear hb)
        go_roundg (ls.length - (i + 1))
        case measure => have := A1.out; have := C2.out; omega
        case rel =>
          refine ⟨i + 1, ?_, ⟨C2.out, Nat.le_refl _, fun j h => ?_⟩, HB⟩
          · congr 1; have := HLN.out; have := C2.out; unfold wrap64; omega
          · by_cases e : j = i
            · subst e; exact HQ.out
            · exact A1.out.2.2 j (by omega)
    · have c2t : ((i : Int) < (ls.length : Int)) = False := eq_false (by omega)
      have C2 := Aside0.mk c2
      clear c2
      go_wp2
      go_ret
      refine ⟨?_, B1.out⟩
      rw [Gen.idxP_missD p ls [] (fun j h => A1.out.2.2 j (by have := C2.out; omega))]
      rfl

/-! ### slices.ContainsFunc[[][]impl.Node,[]impl.Node]: function 106, by hand -/
set_option maxHeartbeats 2000000 in
theorem ContainsFunc_rows (A0 : Option Addr) (c0 : Nat) (ls : List (List S87)) (g : Nat) (lb : Array Value) (p : List S87 → Bool) (w : World) (hr0 : Kd.C (Kd.slice 87 k87) w A0 ls.length ls) (hc0 : ls.length ≤ c0)
    (eg : ∀ args w, (callFunc g args).run Try.prog w = .ok (.enter g args) w)
    (hp : ∀ (W : World) (A : Option Addr) (c : Nat) (l : List S87), Below w.heap.size w W → Kd.C k87 W A l.length l → l.length ≤ c → Calls Try.prog g (#[.slice A l.length c] ++ lb) W fun e w' => e = .returned (.bool (p l)) ∧ Below w.heap.size w w') :
    Calls Try.prog 106 #[.slice A0 ls.length c0, .func (.func g) #[] lb] w fun e w' => e = .returned (.bool (ls.any p)) ∧ Below w.heap.size w w' := by
  have HI := Aside0.mk (IndexFunc_rows A0 c0 ls g lb p w hr0 hc0 eg hp)
  clear hr0 hc0 hp eg
  rw [← Gen.idxP_any]
  generalize Gen.idxP p ls = r at HI ⊢
  go_enter Try.func106, Try.ntmps106
  go_wp2_with (go_at_call 133; (with_reducible refine HI.out.mono ?_); rintro e w' ⟨rfl, hb⟩; have HB := Aside0.mk hb; clear hb)
  go_ret
  exact ⟨rfl, HB.out⟩
theorem badTerm_closure (g : Nat) (hg : ∀ (A : Option Addr) (c : Nat) (l : List S87) (W : World), Calls Try.prog 23 #[.slice A l.length c] W (fun e w' => e = .returned (.bool (Tree.treeOf (toP l)).isSome) ∧ Below W.heap.size W w') → Calls Try.prog g #[.slice A l.length c] W fun e w' => e = .returned (.bool !(Tree.treeOf (toP l)).isSome) ∧ Below W.heap.size W w') (w : World) :
    ∀ (W : World) (A : Option Addr) (c : Nat) (l : List S87), Below w.heap.size w W → Kd.C k87 W A l.length l → l.length ≤ c → Calls Try.prog g (#[.slice A l.length c] ++ #[]) W fun e w' => e = .returned (.bool !(Tree.treeOf (toP l)).isSome) ∧ Below w.heap.size w w' := by
  intro W A c l hW hC hc
  show Calls Try.prog g #[.slice A l.length c] W _
  exact (hg A c l W (impl_GoodTerm.told A c l W hC hc)).mono fun e w' ⟨h, k⟩ => ⟨h, below_step hW k⟩

/-! ### impl.PutAll: function 61, by hand -/
/-- Some list is no good term. -/
def anyBadB (ls : List (List S87)) : Bool := ls.any fun l => !(Tree.treeOf (toP l)).isSome
/-- A term with others for its variables. -/
def putF (l : List S87) (ls : List (List S87)) : List S87 := l.flatMap fun x => if x.f0 = 2 then ls.getD x.f1.toNat [] else [x]
def impl_PutAll.f (l0 : List S87) (l1 : List (List S87)) : Option (List S87 × Bool) :=
  if ((Tree.treeOf (toP l0)).isSome = true ∧ l1.length = 4) ∧ anyBadB l1 = false then some (goodF (putF l0 l1)) else some ([], false)
set_option maxHeartbeats 8000000 in
set_option maxRecDepth 100000 in
theorem PutAll_closure (A : Option Addr) (c : Nat) (l : List S87) (W : World) (h : Calls Try.prog 23 #[.slice A l.length c] W (fun e w' => e = .returned (.bool (Tree.treeOf (toP l)).isSome) ∧ Below W.heap.size W w')) :
    Calls Try.prog 107 #[.slice A l.length c] W fun e w' => e = .returned (.bool !(Tree.treeOf (toP l)).isSome) ∧ Below W.heap.size W w' := by
  generalize (Tree.treeOf (toP l)).isSome = b at h ⊢
  go_enter Try.func107, Try.ntmps107
  go_wp2_with (go_at_call 23; (with_reducible refine h.mono ?_); rintro e w' ⟨rfl, hb⟩; have HB := Aside0.mk hb; clear hb)
  go_ret
  exact ⟨rfl, HB.out⟩
set_option maxHeartbeats 8000000 in
set_option maxRecDepth 100000 in
theorem PutAll_bad (A0 : Option Addr) (c0 : Nat) (l0 : List S87) (A1 : Option Addr) (c1 : Nat) (l1 : List (List S87)) (w : World) (hr0 : Kd.C k87 w A0 l0.length l0) (hc0 : l0.length ≤ c0) (hr1 : Kd.C (Kd.slice 87 k87) w A1 l1.length l1) (hc1 : l1.length ≤ c1)
    (b : Bool) (hb : (Tree.treeOf (toP l0)).isSome = b) (h : b = false ∨ (b = true ∧ l1.length ≠ 4) ∨ (b = true ∧ l1.length = 4 ∧ anyBadB l1 = true)) :
    Calls Try.prog 61 #[.slice A0 l0.length c0, .slice A1 l1.length c1] w fun e w' => e = .returned (.tuple #[.slice none 0 0, .bool false]) ∧ Below w.heap.size w w' := by
  have HG : Aside0 (Calls Try.prog 23 #[.slice A0 l0.length c0] w fun e w' => e = .returned (.bool b) ∧ Below w.heap.size w w') := ⟨by have := impl_GoodTerm.told A0 c0 l0 w hr0 hc0; rwa [hb] at this⟩
  have eg : ∀ args w, (callFunc 107 args).run Try.prog w = .ok (.enter 107 args) w := enters_ Try.func107 (by kernel_rfl) rfl
  have HC : Aside0 (∀ W, Below w.heap.size w W → Calls Try.prog 106 #[.slice A1 l1.length c1, .func (.func 107) #[] #[]] W fun e w' => e = .returned (.bool (anyBadB l1)) ∧ Below W.heap.size W w') :=
    ⟨fun W hW => ContainsFunc_rows A1 c1 l1 107 #[] (fun l => !(Tree.treeOf (toP l)).isSome) W (Kd.C_below hr1 hW) hc1 eg (badTerm_closure 107 PutAll_closure W)⟩
  clear hr1 hc1 eg hr0 hc0 hb
  rcases h with rfl | ⟨rfl, h2⟩ | ⟨rfl, h2, h3⟩
  · clear HC
    go_enter Try.func61, Try.ntmps61
    go_wp2_with (go_at_call 23; (with_reducible refine HG.out.mono ?_); rintro e w2 ⟨rfl, hb⟩; have HB := Aside0.mk hb; clear hb)
    go_ret2
    exact ⟨rfl, HB.out⟩
  · have e1 : ((l1.length : Int) != 4) = true := by rw [bne_iff_ne]; omega
    clear h2 HC
    go_enter Try.func61, Try.ntmps61
    go_wp2_with (go_at_call 23; (with_reducible refine HG.out.mono ?_); rintro e w2 ⟨rfl, hb⟩; have HB := Aside0.mk hb; clear hb)
    go_ret2
    exact ⟨rfl, HB.out⟩
  · have e1 : ((l1.length : Int) != 4) = false := by simp; omega
    rw [h3] at HC
    clear h2 h3
    go_enter Try.func61, Try.ntmps61
    go_wp2_with (first | (go_at_call 23; (with_reducible refine HG.out.mono ?_); rintro e w2 ⟨rfl, hb⟩; have HB := Aside0.mk hb; clear hb) | (go_at_call 106; (with_reducible refine (HC.out _ HB.out).mono ?_); rintro e w3 ⟨rfl, hb⟩; have HB3 : Aside0 (Below w.heap.size w w3) := ⟨below_step HB.out hb⟩; clear hb))
    go_ret2
    exact ⟨rfl, HB3.out⟩
theorem box_R {wr w6 : World} {gb b0 : Nat} {v : Value} {xs : List S87} (h : Kd.R k87 87 wr b0 (fun _ => True) v xs) (hb : Below wr.heap.size wr w6) (hg : wr.heap.size ≤ gb) (x y : Value) :
    Kd.R k87 87 ((w6.setCell ⟨gb, 0, none⟩ x).setCell ⟨gb, 1, none⟩ y) b0 (fun _ => True) v xs := by
  have h1 := Kd.R_below (Kd.R_mono (ok' := fun k => k < wr.heap.size) (Kd.R_bound h) (fun k hk => hk.2.2.1)) hb
  exact Kd.R_mono (Kd.R_far (p := ⟨gb, 1, none⟩) (Kd.R_far (p := ⟨gb, 0, none⟩) h1 (fun k hk => by show k ≠ gb; omega) x) (fun k hk => by show k ≠ gb; omega) y) (fun _ _ => trivial)
theorem box_B {w wr w6 : World} {gb : Nat} (h : Below w.heap.size w wr) (hb : Below wr.heap.size wr w6) (hg : wr.heap.size ≤ gb) (x y : Value) : Below w.heap.size w ((w6.setCell ⟨gb, 0, none⟩ x).setCell ⟨gb, 1, none⟩ y) :=
  below_set (below_set (below_step h hb) (Nat.le_trans h.size hg)) (Nat.le_trans h.size hg)
theorem box_C {wr w6 : World} {gb : Nat} {A : Option Addr} {xs : List S87} (h : ∀ W, Below wr.heap.size wr W → Kd.C k87 W A xs.length xs) (hb : Below wr.heap.size wr w6) (hg : wr.heap.size ≤ gb) (x y : Value) : Kd.C k87 ((w6.setCell ⟨gb, 0, none⟩ x).setCell ⟨gb, 1, none⟩ y) A xs.length xs :=
  h _ (below_set (below_set hb hg) hg)
theorem box_size (w6 : World) (a b : Addr) (x y : Value) : ((w6.setCell a x).setCell b y).heap.size = w6.heap.size := by simp
theorem box_far {w6 : World} {a : Addr} {v : Value} {gb : Nat} (h : w6.cell? a = some v) (hne : a.block ≠ gb) (x y : Value) : ((w6.setCell ⟨gb, 0, none⟩ x).setCell ⟨gb, 1, none⟩ y).cell? a = some v := by
  rw [Tree.cell_same (w := w6) (by rw [Below.heap_setCell _ _ _ _ (by exact hne), Below.heap_setCell _ _ _ _ (by exact hne)])]
  exact h
theorem putF_succ (l : List S87) (ls : List (List S87)) (i : Nat) (h : i < l.length) : putF (l.take (i + 1)) ls = putF (l.take i) ls ++ (if (rd_T87 l (i : Int)).f0 = 2 then ls.getD (rd_T87 l (i : Int)).f1.toNat [] else [rd_T87 l (i : Int)]) := by
  have e : rd_T87 l (i : Int) = l[i] := by unfold rd_T87; rw [Int.toNat_natCast, List.getD_eq_getElem?_getD, List.getElem?_eq_getElem h]; rfl
  unfold putF
  rw [e, List.take_succ_eq_append_getElem h, List.flatMap_append]
  simp
theorem putF_len {ls : List (List S87)} (h : anyBadB ls = false) (l : List S87) : (putF l ls).length ≤ 40 * l.length := by
  have hg : ∀ j, (ls.getD j []).length ≤ 40 := by
    intro j
    rw [List.getD_eq_getElem?_getD]
    cases hj : ls[j]? with
    | none => simp
    | some y =>
      unfold anyBadB at h
      rw [List.any_eq_false] at h
      have h1 := h y (List.mem_of_getElem? hj)
      have h3 := (Tree.treeOf_ok (t := toP y) (by cases hh : (Tree.treeOf (toP y)).isSome with | true => rfl | false => rw [hh] at h1; exact absurd rfl h1)).2.1
      rw [toP_len] at h3
      exact h3
  induction l with
  | nil => simp [putF]
  | cons x t ih =>
    have : putF (x :: t) ls = (if x.f0 = 2 then ls.getD x.f1.toNat [] else [x]) ++ putF t ls := by simp [putF]
    rw [this, List.length_append, List.length_cons]
    have h2 := hg x.f1.toNat
    split
    · omega
    · simp; omega
set_option maxHeartbeats 8000000 in
set_option maxRecDepth 100000 in
theorem PutAll_good (A0 : Option Addr) (c0 : Nat) (l0 : List S87) (A1 : Option Addr) (c1 : Nat) (l1 : List (List S87)) (w : World) (hr0 : Kd.C k87 w A0 l0.length l0) (hc0 : l0.length ≤ c0) (hr1 : Kd.C (Kd.slice 87 k87) w A1 l1.length l1) (hc1 : l1.length ≤ c1)
    (hb : (Tree.treeOf (toP l0)).isSome = true) (h4 : l1.length = 4) (h3 : anyBadB l1 = false) :
    Calls Try.prog 61 #[.slice A0 l0.length c0, .slice A1 l1.length c1] w fun e w' => ∃ v0_ : Value, e = .returned (.tuple #[v0_, .bool (goodF (putF l0 l1)).2]) ∧ Kd.R k87 87 w' w.heap.size (fun _ => True) v0_ (goodF (putF l0 l1)).1 ∧ Below w.heap.size w w' := by
  have HG : Aside0 (Calls Try.prog 23 #[.slice A0 l0.length c0] w fun e w' => e = .returned (.bool true) ∧ Below w.heap.size w w') := ⟨by have := impl_GoodTerm.told A0 c0 l0 w hr0 hc0; rwa [hb] at this⟩
  have eg : ∀ args w, (callFunc 107 args).run Try.prog w = .ok (.enter 107 args) w := enters_ Try.func107 (by kernel_rfl) rfl
  have HC : Aside0 (∀ W, Below w.heap.size w W → Calls Try.prog 106 #[.slice A1 l1.length c1, .func (.func 107) #[] #[]] W fun e w' => e = .returned (.bool false) ∧ Below W.heap.size W w') :=
    ⟨fun W hW => by have := ContainsFunc_rows A1 c1 l1 107 #[] (fun l => !(Tree.treeOf (toP l)).isSome) W (Kd.C_below hr1 hW) hc1 eg (badTerm_closure 107 PutAll_closure W); rw [show (l1.any fun l => !(Tree.treeOf (toP l)).isSome) = false from h3] at this; exact this⟩
  have HGL : Aside0 (∀ (W : World) (v : Value), Kd.R k87 87 W w.heap.size (fun _ => True) v (putF l0 l1) → Below w.heap.size w W → Calls Try.prog 101 #[v] W fun e w' => ∃ v0 : Value, e = .returned (.tuple #[v0, .bool (goodF (putF l0 l1)).2]) ∧ Aside0 (Kd.R k87 87 w' w.heap.size (fun _ => True) v0 (goodF (putF l0 l1)).1 ∧ Below w.heap.size w w')) :=
    ⟨fun W v hR hW => (goodList_row v _ 0 w W hR hW).mono fun e w' ⟨v0, h1, h2, h3⟩ => ⟨v0, h1, ⟨h2, h3⟩⟩⟩
  generalize (goodF (putF l0 l1)).2 = gb at HGL ⊢
  generalize (goodF (putF l0 l1)).1 = gl at HGL ⊢
  have hok := Tree.treeOf_ok hb
  rw [toP_len] at hok
  have HLN : Aside0 (1 ≤ l0.length ∧ l0.length ≤ 40) := ⟨hok.1, hok.2.1⟩
  have HN : Aside0 (∀ i : Nat, i < l0.length → (rd_T87 l0 (i : Int)).f0 = 2 → 0 ≤ (rd_T87 l0 (i : Int)).f1 ∧ (rd_T87 l0 (i : Int)).f1 < 4) := by
    refine ⟨fun i hi h2 => ?_⟩
    have e : rd_T87 l0 (i : Int) = l0[i] := by unfold rd_T87; rw [Int.toNat_natCast, List.getD_eq_getElem?_getD, List.getElem?_eq_getElem hi]; rfl
    have hm : ((rd_T87 l0 (i : Int)).f0, (rd_T87 l0 (i : Int)).f1) ∈ toP l0 := by rw [e]; exact List.mem_map.2 ⟨_, List.getElem_mem hi, rfl⟩
    have := hok.2.2 _ hm
    simp only [h2] at this
    unfold Tree.numOK at this
    rw [if_neg (by omega), if_pos rfl] at this
    exact of_decide_eq_true this
  have HPL : Aside0 (∀ i, (putF (l0.take i) l1).length ≤ 1600) := ⟨fun i => by have := putF_len h3 (l0.take i); rw [List.length_take] at this; have := HLN.out; omega⟩
  have HPL2 : Aside0 (∀ j, (l1.getD j []).length ≤ 40) := by
    refine ⟨fun j => ?_⟩
    have := putF_len h3 [⟨2, (j : Int)⟩]
    simpa [putF] using this
  have HPS : Aside0 (∀ i, i < l0.length → putF (l0.take (i + 1)) l1 = putF (l0.take i) l1 ++ (if (rd_T87 l0 (i : Int)).f0 = 2 then l1.getD (rd_T87 l0 (i : Int)).f1.toNat [] else [rd_T87 l0 (i : Int)])) := ⟨fun i hi => putF_succ l0 l1 i hi⟩
  have HPE : Aside0 (putF (l0.take l0.length) l1 = putF l0 l1) := ⟨by rw [List.take_length]⟩
  have H4 := Aside0.mk h4
  have HR0 := Aside0.mk hr0
  have HR1 := Aside0.mk hr1
  have e1 : ((l1.length : Int) != 4) = false := by simp; omega
  clear hr1 hc1 eg hr0 hc0 hb h3 hok h4
  go_enter Try.func61, Try.ntmps61
  go_wp2_with (first | (go_at_call 23; (with_reducible refine HG.out.mono ?_); rintro e w2 ⟨rfl, hb⟩; have HB := Aside0.mk hb; clear hb) | (go_at_call 106; (with_reducible refine (HC.out _ HB.out).mono ?_); rintro e w3 ⟨rfl, hb⟩; have HB3 : Aside0 (Below w.heap.size w w3) := ⟨below_step HB.out hb⟩; clear hb) | ((with_reducible refine gate_dst (N := 21) rfl ?_); refine Kd.R_lit k87 _ 87 ?hg (N := 21) ?hd (xs := ([] : List S87)) (inner := []) (ok := fun _ => True) (okp := fun _ => True) ?hr ?hp (fun _ hk => hk) trivial (Below.refl _ _) (Nat.le_refl _) (by simp) ?_; (case hd => rfl); (case hg => rfl); (case hr => first | (go_simp; done) | (go_simp; rfl)); (case hp => exact (Reps.none _ _)); intro v21 w4 ho hb hg_ hnew_; have R21 := Aside0.mk (Kd.R_lower ho HB3.out.size); have B21 := Aside0.mk (below_step HB3.out hb); clear ho hb hg_ hnew_))
  go_loopg [6, 24] l0.length (fun gg v6 v24 wr => ∃ i : Nat, v24 = .int .i64 (i : Int) ∧ Aside0 (i ≤ l0.length ∧ l0.length - i ≤ gg) ∧ Aside0 (Kd.R k87 87 wr w.heap.size (fun _ => True) v6 (putF (l0.take i) l1)) ∧ Aside0 (Below w.heap.size w wr))
  case atStart => exact ⟨0, rfl, ⟨Nat.zero_le _, Nat.le_refl _⟩, ⟨by simpa [putF] using R21.out⟩, B21⟩
  case round =>
    obtain ⟨i, rfl, A1x, R1, B1⟩ := hrel
    obtain ⟨A6, c6, rfl, -, -⟩ := Kd.R_reads R1.out
    by_cases c2 : i < l0.length
    · obtain ⟨ad, e0, hx0, hx1⟩ := at_T87 (Kd.C_below HR0.out B1.out) (i : Int) (by omega) (by omega)
      cases e0
      rw [Int.toNat_natCast] at hx0 hx1
      have HS := Aside0.mk (HPS.out i c2)
      have HNI := Aside0.mk (HN.out i c2)
      have HL1 := Aside0.mk (HPL.out i)
      have c2t : ((i : Int) < (l0.length : Int)) = True := eq_true (by omega)
      have C2 := Aside0.mk c2
      generalize putF (l0.take i) l1 = ys at R1 HS HL1 ⊢
      by_cases h2 : (rd_T87 l0 (i : Int)).f0 = 2
      · obtain ⟨p1, p2⟩ := HNI.out h2
        have hs := HS.out
        rw [if_pos h2] at hs
        have HS2 := Aside0.mk hs
        rw [h2] at hx0
        generalize (rd_T87 l0 (i : Int)).f1 = n at p1 p2 hx1 HS2
        obtain ⟨ad1, A2, c2x, e1x, hx2, hl2, hC2⟩ := at_rowsB (Kd.C_below HR1.out B1.out) n.toNat (by have := H4.out; omega)
        cases e1x
        have HL2 := Aside0.mk (HPL2.out n.toNat)
        have HCC : Aside0 (∀ W, Below wr.heap.size wr W → Kd.C k87 W A2 (l1.getD n.toNat []).length (l1.getD n.toNat [])) := ⟨fun W hW => Kd.C_below hC2 hW⟩
        have HXB : Aside0 (wr.cell? (ad1.add n.toNat) = some (.slice A2 (l1.getD n.toNat []).length c2x)) := ⟨hx2⟩
        generalize l1.getD n.toNat [] = zs at hx2 HL2 HCC HS2 HXB
        have p3 : (n < (l1.length : Int)) = True := eq_true (by have := H4.out; omega)
        replace p1 := eq_true p1
        clear c2 h2 hs p2 hl2 hC2
        go_wp2_with (first | ((with_reducible refine gate_dst (N := 8) rfl ?_); refine box_event ?hg (N := 8) ?hd (cs := #[.int .i64 0, .int .i64 0]) (t := 87) ?hr ?_; (case hd => rfl); (case hg => rfl); (case hr => first | (go_simp; done) | (go_simp; rfl)); intro gx hg w6 hbox hb; have HBB := Aside0.mk hb; have HGB : Aside0 (wr.heap.size ≤ gx) := ⟨Nat.le_of_eq hg.symm⟩; have hcz0 : w6.cell? ⟨gx, 0, none⟩ = some (.int .i64 0) := (blk_cell hbox 0).trans rfl; have hcz1 : w6.cell? ⟨gx, 1, none⟩ = some (.int .i64 0) := (blk_cell hbox 1).trans rfl; have hfz0 := blk_frozen hbox 0; have hfz1 := blk_frozen hbox 1; have hy3 := box_far (pw_cell_below hb HXB.out) (Nat.ne_of_lt (Nat.lt_of_lt_of_le (World.block_lt_of_cell? wr _ HXB.out) HGB.out)) (.int .i64 2) (.int .i64 n); clear hbox hb hg) | ((with_reducible refine gate_builtin (b := .append) (xs := #[.tmp 31, .tmp 36]) rfl ?_); at_builtin; refine Kd.R_append_rows k87 (w0 := w) w.heap.size rfl (.tmp 31) (.tmp 36) 25 87 (.agg #[.int .i64 0, .int .i64 0]) 16 rfl Try.underlying25 info87 rfl (by decide) (by omega) _ ys zs _ _ _ (fun _ => True) (fun _ => False) rfl rfl ?aO ?aR (fun _ _ h => h) (fun _ h => h.elim) ?aF ?aB ?aS ?aL ?_; (case aR => exact box_C HCC.out HBB.out HGB.out _ _); (case aB => exact box_B B1.out HBB.out HGB.out _ _); (case aF => exact (fun _ _ => trivial)); (case aO => exact box_R R1.out HBB.out HGB.out _ _); (case aS => exact (box_B B1.out HBB.out HGB.out _ _).size); (case aL => have := HL1.out; have := HL2.out; omega); intro v118 w7 ho hb hg hat; have R2 := Aside0.mk ho; have B2 := Aside0.mk hb; clear ho hb hg hat))
        go_roundg (l0.length - (i + 1))
        case measure => have := A1x.out; have := C2.out; omega
        case rel =>
          refine ⟨i + 1, ?_, ⟨C2.out, Nat.le_refl _⟩, ⟨by rw [HS2.out]; exact R2.out⟩, B2⟩
          congr 1; have := HLN.out; have := C2.out; unfold wrap64; omega
      · have hs := HS.out
        rw [if_neg h2] at hs
        have HS2 := Aside0.mk hs
        generalize rd_T87 l0 (i : Int) = nd at hx0 hx1 h2 HS2
        obtain ⟨op, n⟩ := nd
        simp only at hx0 hx1 h2
        have z1 : (op == 2) = false := by rw [beq_eq_false_iff_ne]; exact h2
        clear c2 hs h2
        go_wp2_with (first | ((with_reducible refine gate_dst (N := 8) rfl ?_); refine box_event ?hg (N := 8) ?hd (cs := #[.int .i64 0, .int .i64 0]) (t := 87) ?hr ?_; (case hd => rfl); (case hg => rfl); (case hr => first | (go_simp; done) | (go_simp; rfl)); intro gx hg w6 hbox hb; have HBB := Aside0.mk hb; have HGB : Aside0 (wr.heap.size ≤ gx) := ⟨Nat.le_of_eq hg.symm⟩; have hcz0 : w6.cell? ⟨gx, 0, none⟩ = some (.int .i64 0) := (blk_cell hbox 0).trans rfl; have hcz1 : w6.cell? ⟨gx, 1, none⟩ = some (.int .i64 0) := (blk_cell hbox 1).trans rfl; have hfz0 := blk_frozen hbox 0; have hfz1 := blk_frozen hbox 1; clear hbox hb hg) | ((with_reducible refine gate_builtin (b := .append) (xs := #[.tmp 38, .tmp 40]) rfl ?_); at_builtin; refine Kd.R_append k87 (w0 := w) w.heap.size rfl (.tmp 38) (.tmp 40) 25 87 (.agg #[.int .i64 0, .int .i64 0]) 16 rfl Try.underlying25 info87 rfl (by decide) (by omega) _ ys (⟨op, n⟩ : S87) [.int .i64 op, .int .i64 n] (fun _ => True) (fun _ => False) rfl ?hX ?aP (fun _ hk => hk.elim) ?aF ?aO ?aB ?aS ?aL ?_; (case hX => exact congrArg (fun m : Nat => Value.slice (some ⟨m, 0, none⟩) 1 1) (box_size w6 _ _ _ _).symm); (case aP => exact k87_mkM _ _ _ (⟨op, n⟩ : S87)); (case aB => exact box_B B1.out HBB.out HGB.out _ _); (case aF => exact (fun _ _ => trivial)); (case aO => exact box_R R1.out HBB.out HGB.out _ _); (case aS => exact (box_B B1.out HBB.out HGB.out _ _).size); (case aL => have := HL1.out; omega); intro v118 w7 ho hb hg hat; have R2 := Aside0.mk ho; have B2 := Aside0.mk hb; clear ho hb hg hat))
        go_roundg (l0.length - (i + 1))
        case measure => have := A1x.out; have := C2.out; omega
        case rel =>
          refine ⟨i + 1, ?_, ⟨C2.out, Nat.le_refl _⟩, ⟨by rw [HS2.out]; exact R2.out⟩, B2⟩
          congr 1; have := HLN.out; have := C2.out; unfold wrap64; omega
    · have hi : i = l0.length := by have := A1x.out; omega
      have c2t : ((i : Int) < (l0.length : Int)) = False := eq_false (by omega)
      rw [hi, HPE.out] at R1
      rw [hi, HPE.out]
      generalize putF l0 l1 = ys at R1 HGL ⊢
      clear c2 hi
      go_wp2_with (go_at_call 101; (with_reducible refine (HGL.out _ _ R1.out B1.out).mono ?_); rintro e w6 ⟨v6, rfl, HZ⟩)
      go_ret2
      exact ⟨_, rfl, HZ.out.1, HZ.out.2⟩
theorem impl_PutAll.calls (A0 : Option Addr) (c0 : Nat) (l0 : List S87) (A1 : Option Addr) (c1 : Nat) (l1 : List (List S87)) (r1 : List S87) (r2 : Bool) (w : World) (hr0 : Kd.C k87 w A0 l0.length l0) (hc0 : l0.length ≤ c0) (hr1 : Kd.C (Kd.slice 87 k87) w A1 l1.length l1) (hc1 : l1.length ≤ c1) (h : impl_PutAll.f l0 l1 = some (r1, r2)) :
    Calls Try.prog 61 #[.slice A0 l0.length c0, .slice A1 l1.length c1] w fun e w' => ∃ v0_ : Value, e = .returned (.tuple #[v0_, .bool r2]) ∧ Kd.R k87 87 w' w.heap.size (fun _ => True) v0_ r1 ∧ Below w.heap.size w w' := by
  unfold impl_PutAll.f at h
  by_cases hc : ((Tree.treeOf (toP l0)).isSome = true ∧ l1.length = 4) ∧ anyBadB l1 = false
  · rw [if_pos hc] at h
    injection h with h
    have := PutAll_good A0 c0 l0 A1 c1 l1 w hr0 hc0 hr1 hc1 hc.1.1 hc.1.2 hc.2
    rw [h] at this
    exact this
  · rw [if_neg hc] at h
    obtain ⟨rfl, rfl⟩ : [] = r1 ∧ false = r2 := by simpa using h
    refine (PutAll_bad A0 c0 l0 A1 c1 l1 w hr0 hc0 hr1 hc1 _ rfl ?_).mono ?_
    · by_cases h1 : (Tree.treeOf (toP l0)).isSome = true
      · by_cases h2 : l1.length = 4
        · refine .inr (.inr ⟨h1, h2, ?_⟩)
          cases hb : anyBadB l1 with
          | true => rfl
          | false => exact absurd ⟨⟨h1, h2⟩, hb⟩ hc
        · exact .inr (.inl ⟨h1, h2⟩)
      · exact .inl (by simpa using h1)
    · rintro e w' ⟨rfl, hb⟩
      exact ⟨_, rfl, Kd.R_nil _ _ _ _ _, hb⟩

end Go.Proofs.Ytlneknaiimmfmaa.PFnExactPutAll
