/- Functions of the program and of the reference as plain Lean functions, and what their calls come to; partly printed by a program, partly by hand; no condition beyond what each theorem says. -/
import Derived.Test.YtlneknaiimmfmaaPFnExactReplaceAtx0
import Derived.Test.YtlneknaiimmfmaaPFnExactReplaceAtx3
namespace Go.Proofs.Ytlneknaiimmfmaa.PFnExactReplaceAt
open Go.RowKit Go.Proofs.YtlneknaiimmfmaaW.PrintWords Go.Proofs.YtlneknaiimmfmaaW.PrintLast Go.Proofs.YtlneknaiimmfmaaW.PrintMore
attribute [local go_sem] max2_int min2_int max_two min_two max_three min_three max_four min_four   -- for this text's walks alone
set_option linter.unusedVariables false
set_option linter.unusedSimpArgs false

/-! ### impl.begin: function 86, by hand -/
set_option maxHeartbeats 8000000 in
set_option maxRecDepth 100000 in
theorem impl_begin.calls (ad : Addr) (n c i : Nat) (a : Addr) (T : Tree.Tr) (ok : Nat → Prop) (w : World) (hT : Tree.Tree w ok T a) (hi : i < n) (hs : T.flat.length ≤ i + 1) (hi2 : i ≤ 1000) (hcell : w.cell? (ad.add i) = some (.pointer (some a))) :
    Calls Try.prog 86 #[.slice (some ad) n c, .int .i64 (i : Int)] w fun e w' => e = .returned (.int .i64 ((i + 1 - T.flat.length : Nat) : Int)) ∧ Drawn0 w w' := by
  obtain ⟨d, hT⟩ := hT
  have hsz : ∀ q, Calls Try.prog 118 #[.pointer (some a)] (w.drewN q) fun e w' => e = .returned (.int .i64 (T.flat.length : Int)) ∧ Drawn0 (w.drewN q) w' := fun q => tree_size.calls d T a ok (w.drewN q) (hT.below (pw_below_drewN (Below.refl _ _) q)) (by omega)
  have hsz0 := hsz 0
  have hw : wrap64 (wrap64 ((i : Int) + 1) - (T.flat.length : Int)) = ((i + 1 - T.flat.length : Nat) : Int) := by unfold wrap64; omega
  have hw1 : wrap64 ((i : Int) + 1) = ((i : Int) + 1) := by unfold wrap64; omega
  have hi0 : (0 ≤ (i : Int)) = True := eq_true (by omega)
  have hi1 : ((i : Int) < (n : Int)) = True := eq_true (by omega)
  have HW := Aside0.mk hw
  clear hw hT hi hs hi2
  go_enter Try.func86, Try.ntmps86
  go_wp2_with (go_at_call 118; first | (refine hsz0.mono ?_; rintro e w' ⟨rfl, ⟨q', rfl⟩⟩) | (refine (hsz _).mono ?_; rintro e w' ⟨rfl, ⟨q', rfl⟩⟩))
  go_ret
  refine ⟨?_, by repeat (first | exact Drawn0.refl _ | apply Drawn0.step)⟩
  have := HW.out
  rw [hw1] at this
  simp only [hw1, this]
  rfl

/-! ### impl.goodList: function 101, by hand -/
/-- What goodList answers. -/
def goodF (l : List S87) : List S87 × Bool := if (Tree.treeOf (toP l)).isSome = true then (l, true) else ([], false)
set_option maxHeartbeats 8000000 in
set_option maxRecDepth 100000 in
theorem goodList_calls (A0 : Option Addr) (c0 : Nat) (l0 : List S87) (w : World) (hr0 : Kd.C k87 w A0 l0.length l0) (hc0 : l0.length ≤ c0) :
    Calls Try.prog 101 #[.slice A0 l0.length c0] w fun e w' => e = .returned (.tuple #[if (Tree.treeOf (toP l0)).isSome = true then .slice A0 l0.length c0 else .slice none 0 0, .bool (Tree.treeOf (toP l0)).isSome]) ∧ Below w.heap.size w w' := by
  have HG := Aside0.mk (impl_GoodTerm.told A0 c0 l0 w hr0 hc0)
  clear hr0 hc0
  generalize (Tree.treeOf (toP l0)).isSome = b at HG ⊢
  cases b with
  | true =>
    rw [if_pos rfl]
    go_enter Try.func101, Try.ntmps101
    go_wp2_with (go_at_call 23; (with_reducible refine HG.out.mono ?_); rintro e w' ⟨rfl, hb⟩; have HB := Aside0.mk hb; clear hb)
    go_ret2
    exact ⟨rfl, HB.out⟩
  | false =>
    rw [if_neg (by simp)]
    go_enter Try.func101, Try.ntmps101
    go_wp2_with (go_at_call 23; (with_reducible refine HG.out.mono ?_); rintro e w' ⟨rfl, hb⟩; have HB := Aside0.mk hb; clear hb)
    go_ret2
    exact ⟨rfl, HB.out⟩
/-- The same, behind a row of one's own. -/
theorem goodList_row (v : Value) (l : List S87) (b0 : Nat) (w W : World) (hR : Kd.R k87 87 W w.heap.size (fun _ => True) v l) (hW : Below w.heap.size w W) :
    Calls Try.prog 101 #[v] W fun e w' => ∃ v0 : Value, e = .returned (.tuple #[v0, .bool (goodF l).2]) ∧ Kd.R k87 87 w' w.heap.size (fun _ => True) v0 (goodF l).1 ∧ Below w.heap.size w w' := by
  obtain ⟨A, c, rfl, hc, hC⟩ := Kd.R_reads hR
  refine (goodList_calls A c l W hC hc).mono ?_
  rintro e w' ⟨rfl, hb⟩
  have hR' := Kd.R_below hR hb
  unfold goodF
  cases h : (Tree.treeOf (toP l)).isSome with
  | true => exact ⟨_, rfl, by simpa using hR', below_step hW hb⟩
  | false => exact ⟨_, rfl, by simpa using Kd.R_nil _ _ _ _ _, below_step hW hb⟩

/-! ### slices.Grow[[]impl.Node,impl.Node]: function 131, by hand -/
theorem append_num_run {P : Program} {o : Oper} {a : Act} {W W1 : World} {v vs vx : Value} (s x : Operand) (t tn : TypeId) (ho : o.op = .call { callee := .builtin .append, args := #[s, x], argTypes := #[t, tn] }) (hs : a.eval s = vs) (hx : a.eval x = vx)
    (hr : ∀ ty, (Builtin.append_ #[t, tn] ty #[vs, vx]).run P W = .ok v W1) : (execOp a.eval o).run P W = .ok (.value v) W1 := by
  unfold execOp
  simp only [ho, resolve, invoke, builtin, Sem.run_bind, Sem.run_pure, Result.andThen_ok, List.map_toArray, List.map_cons, List.map_nil, hs, hx, hr]
set_option maxHeartbeats 8000000 in
set_option maxRecDepth 100000 in
theorem Grow_nil (n : Nat) (w : World) (hn : n ≤ 1000000) :
    Calls Try.prog 131 #[.slice none 0 0, .int .i64 (n : Int)] w fun e w' => ∃ v : Value, e = .returned v ∧ Kd.R k87 87 w' w.heap.size (fun _ => True) v [] ∧ Below w.heap.size w w' := by
  by_cases h0 : n = 0
  · subst h0
    show Calls Try.prog _ #[.slice none 0 0, .int .i64 0] w _
    go_enter Try.func131, Try.ntmps131
    go_wp2
    go_ret
    exact ⟨_, rfl, Kd.R_nil _ _ _ _ _, Below.refl _ _⟩
  · obtain ⟨i0, hi, hz0, hs, hbt⟩ := info_parts info87
    have hrz : ∀ ty, (Builtin.append_ #[25, 3] ty #[.slice none 0 0, .int .i64 (n : Int)]).run Try.prog w = .ok (.slice (some ⟨w.heap.size, 0, none⟩) n (grownCap w n 0 87)) (w.drew.alloc (.cells (Builtin.zeroCells (Value.agg #[(.int .i64 0), (.int .i64 0)]).cells n ++ Builtin.zeroCells (Value.agg #[(.int .i64 0), (.int .i64 0)]).cells (grownCap w n 0 87 - n)) 87)) := fun ty =>
      Lib.run_append_nil_zeros w 25 3 ty 87 i0 _ .i64 .i64 Try.underlying25 Try.underlying3 hi hz0 n (by omega) (by omega) (by omega) (by rw [hbt]; omega)
    have hGn : n ≤ grownCap w n 0 87 := grownCap_ge w _ _ _
    have hG63 := grownCap_le_maxLen w n 0 87 (by unfold maxLen; omega)
    generalize grownCap w n 0 87 = G at hrz hGn hG63
    have hcells : (Builtin.zeroCells (Value.agg #[(.int .i64 0), (.int .i64 0)]).cells n ++ Builtin.zeroCells (Value.agg #[(.int .i64 0), (.int .i64 0)]).cells (G - n)).size = G * 2 := by
      rw [Array.size_append, size_zeroCells, size_zeroCells]
      show n * 2 + (G - n) * 2 = G * 2
      omega
    generalize Builtin.zeroCells (Value.agg #[(.int .i64 0), (.int .i64 0)]).cells n ++ Builtin.zeroCells (Value.agg #[(.int .i64 0), (.int .i64 0)]).cells (G - n) = cs at hrz hcells
    have HC := Aside0.mk hcells
    have HG := Aside0.mk hGn
    have HM := Aside0.mk hG63
    have n1 : ¬ ((n : Int) < 0) := by omega
    have n2 : (n : Int) > 0 := by omega
    have n5 : (n : Int) ≤ 1000000 := by omega
    have n6 : 0 ≤ (n : Int) := by omega
    have n4 : (0 : Int) ≤ (G : Int) := by omega
    have HRZ := Aside0.mk hrz
    clear hcells hGn hG63 hi hz0 hs hbt h0 hrz
    go_enter Try.func131, Try.ntmps131
    go_wp2_with (((with_reducible refine gate_builtin (b := .append) (xs := #[.tmp 20, .tmp 21]) rfl ?_); refine Kd.event_run (v := .slice (some ⟨w.heap.size, 0, none⟩) n G) (w1 := w.drew.alloc (.cells cs 87)) ?hg ?hq ?_; (case hg => rfl); (case hq => refine append_num_run (vs := .slice none 0 0) (vx := .int .i64 (n : Int)) (.tmp 20) (.tmp 21) 25 3 ?h1 ?h2 ?h3 ?h4; (case h1 => rfl); (case h2 => rfl); (case h3 => rfl); exact HRZ.out)))
    go_ret
    refine ⟨_, rfl, ⟨fun _ _ => trivial, [], ⟨rfl, .inr ⟨w.heap.size, G, cs, rfl, Nat.le_refl _, blk_new w.drew _, Nat.zero_le _, HM.out, HC.out, rfl⟩⟩, Reps.none _ _⟩, below_alloc (below_drew (Below.refl _ _)) _⟩

/-! ### slices.Concat[[]impl.Node,impl.Node]: function 102, by hand -/
theorem at_rows {w : World} {A : Option Addr} {n : Nat} {ls : List (List S87)} (h : Kd.C (Kd.slice 87 k87) w A n ls) (i : Nat) (hi : i < n) : ∃ ad A0 c0, A = some ad ∧ w.cell? (ad.add i) = some (.slice A0 (ls.getD i []).length c0) ∧ (ls.getD i []).length ≤ c0 ∧ Kd.C k87 w A0 (ls.getD i []).length (ls.getD i []) := by
  obtain ⟨ad, c, e, _, hK, hc0⟩ := Kd.C_get h ([] : List S87) (i : Int) (by omega) (by omega)
  rw [Int.toNat_natCast] at hK hc0
  have hc : ∀ j u, c[j]? = some u → w.cell? (ad.add (i * 1 + j)) = some u := hc0
  obtain ⟨A0, c0, rfl, l0, g0⟩ := hK
  exact ⟨ad, A0, c0, e, by have hq := hc 0 _ rfl; rwa [Nat.mul_one, Nat.add_zero] at hq, l0, g0⟩
theorem flatten_take_le {α : Type} (ls : List (List α)) (i : Nat) : (ls.take i).flatten.length ≤ ls.flatten.length := by
  conv => rhs; rw [← List.take_append_drop i ls, List.flatten_append, List.length_append]
  omega
theorem flatten_take_succ {α : Type} (ls : List (List α)) (i : Nat) (h : i < ls.length) : (ls.take (i + 1)).flatten = (ls.take i).flatten ++ ls.getD i [] := by
  rw [List.take_succ_eq_append_getElem h, List.flatten_append, List.getD_eq_getElem?_getD, List.getElem?_eq_getElem h]
  simp
set_option maxHeartbeats 8000000 in
set_option maxRecDepth 100000 in
theorem Concat_nodes (A : Option Addr) (c : Nat) (ls : List (List S87)) (w : World) (hr : Kd.C (Kd.slice 87 k87) w A ls.length ls) (hc : ls.length ≤ c) (hl : ls.length ≤ 1000000) (ht : ls.flatten.length ≤ 1000000) :
    Calls Try.prog 102 #[.slice A ls.length c] w fun e w' => ∃ v : Value, e = .returned v ∧ Kd.R k87 87 w' w.heap.size (fun _ => True) v ls.flatten ∧ Below w.heap.size w w' := by
  have HR := Aside0.mk hr
  have HL := Aside0.mk hl
  have HT := Aside0.mk ht
  obtain ⟨L, hL⟩ : ∃ L : Nat → Nat, ∀ i, L i = (ls.take i).flatten.length := ⟨_, fun _ => rfl⟩
  obtain ⟨M, hM⟩ : ∃ M : Nat, M = ls.flatten.length := ⟨_, rfl⟩
  have HL0 : Aside0 (L 0 = 0) := ⟨by rw [hL]; simp⟩
  have HLS : Aside0 (∀ i, i < ls.length → L (i + 1) = L i + (ls.getD i []).length ∧ L (i + 1) ≤ M) := ⟨fun i hi => by rw [hL, hL, hM, ← List.length_append, ← flatten_take_succ ls i hi]; exact ⟨rfl, flatten_take_le ls (i + 1)⟩⟩
  have HLN : Aside0 (L ls.length = M) := ⟨by rw [hL, List.take_length, hM]⟩
  have HM : Aside0 (M ≤ 1000000) := ⟨by rw [hM]; exact ht⟩
  have HGR : Aside0 (∀ W, Below w.heap.size w W → Calls Try.prog 131 #[.slice none 0 0, .int .i64 (M : Int)] W fun e w' => ∃ v : Value, e = .returned v ∧ Kd.R k87 87 w' w.heap.size (fun _ => True) v [] ∧ Below w.heap.size w w') := ⟨fun W hW => (Grow_nil M W HM.out).mono fun e w' ⟨v, h1, h2, h3⟩ => ⟨v, h1, Kd.R_lower h2 hW.size, below_step hW h3⟩⟩
  clear hr hl ht hc hL hM
  go_enter Try.func102, Try.ntmps102
  go_wp2
  go_loopg [3, 11] ls.length (fun gg v3 v11 wr => ∃ i : Nat, v11 = .int .i64 (i : Int) ∧ v3 = .int .i64 (L i : Int) ∧ Aside0 (i ≤ ls.length ∧ ls.length - i ≤ gg) ∧ Drawn0 w wr)
  case atStart => exact ⟨0, rfl, by rw [HL0.out]; rfl, ⟨Nat.zero_le _, Nat.le_refl _⟩, by repeat (first | exact Drawn0.refl _ | apply Drawn0.step)⟩
  case round =>
    obtain ⟨i, rfl, rfl, A1, ⟨q, rfl⟩⟩ := hrel
    by_cases c2 : i < ls.length
    · obtain ⟨ad, A0, c0, e0, hx, -, -⟩ := at_rows HR.out i c2
      cases e0
      have HS := Aside0.mk (HLS.out i c2)
      generalize ls.getD i [] = x at hx HS
      have c2t : ((i : Int) < (ls.length : Int)) = True := eq_true (by omega)
      have C2 := Aside0.mk c2
      have b1 : (L i : Int) ≤ 1000000 := by have := HM.out; have := HS.out; omega
      have b2 : ((x.length : Nat) : Int) ≤ 1000000 := by have := HM.out; have := HS.out; omega
      have b3 : 0 ≤ (L i : Int) := by omega
      have b4 : 0 ≤ ((x.length : Nat) : Int) := by omega
      have b5 : ¬ ((L i : Int) + ((x.length : Nat) : Int) < 0) := by omega
      clear c2
      go_wp2
      go_roundg (ls.length - (i + 1))
      case measure => have := A1.out; have := C2.out; omega
      case rel =>
        refine ⟨i + 1, ?_, ?_, ⟨C2.out, Nat.le_refl _⟩, by repeat (first | exact Drawn0.refl _ | apply Drawn0.step)⟩
        · congr 1; have := HL.out; have := C2.out; unfold wrap64; omega
        · congr 1; have := HS.out.1; omega
    · have hi : i = ls.length := by have := A1.out; omega
      have c2t : ((i : Int) < (ls.length : Int)) = False := eq_false (by omega)
      have htk : L i = M := by rw [hi]; exact HLN.out
      rw [htk]
      clear c2 hi htk
      go_wp2_with (go_at_call 131; (with_reducible refine (HGR.out _ (by repeat (first | exact Below.refl _ _ | apply pw_below_drewN))).mono ?_); rintro e w1 ⟨v, rfl, hr, hb⟩; have R0 := Aside0.mk hr; have B0 := Aside0.mk hb; clear hr hb)
      go_loopg [6, 27] ls.length (fun gg v6 v27 wr => ∃ i : Nat, v27 = .int .i64 (i : Int) ∧ Aside0 (i ≤ ls.length ∧ ls.length - i ≤ gg) ∧ Aside0 (Kd.R k87 87 wr w.heap.size (fun _ => True) v6 (ls.take i).flatten) ∧ Aside0 (Below w.heap.size w wr))
      case atStart => exact ⟨0, rfl, ⟨Nat.zero_le _, Nat.le_refl _⟩, ⟨by simpa using R0.out⟩, B0⟩
      case round =>
        clear c2t
        obtain ⟨i, rfl, A2, R1, B1⟩ := hrel
        obtain ⟨A6, c6, rfl, -, -⟩ := Kd.R_reads R1.out
        by_cases c2 : i < ls.length
        · obtain ⟨ad, A0, c0, e0, hx, hc0, hC⟩ := at_rows (Kd.C_below HR.out B1.out) i c2
          cases e0
          have HTK := Aside0.mk (flatten_take_succ ls i c2)
          have HTL : Aside0 ((ls.take i).flatten.length + (ls.getD i []).length ≤ 1000000) := ⟨by have h1 := flatten_take_le ls (i + 1); rw [flatten_take_succ ls i c2, List.length_append] at h1; have := HT.out; omega⟩
          generalize ls.getD i [] = x at hx hc0 hC HTK HTL
          generalize (ls.take i).flatten = ys at R1 HTK HTL ⊢
          have HC := Aside0.mk hC
          have c2t : ((i : Int) < (ls.length : Int)) = True := eq_true (by omega)
          have C2 := Aside0.mk c2
          clear c2 hC hc0
          go_wp2_with (((with_reducible refine gate_builtin (b := .append) (xs := #[.tmp 31, .tmp 32]) rfl ?_); at_builtin; refine Kd.R_append_rows k87 (w0 := w) w.heap.size rfl (.tmp 31) (.tmp 32) 25 87 (.agg #[.int .i64 0, .int .i64 0]) 16 rfl Try.underlying25 info87 rfl (by decide) (by omega) _ ys x _ _ _ (fun _ => True) (fun _ => False) rfl rfl ?aO ?aR (fun _ _ h => h) (fun _ h => h.elim) ?aF ?aB ?aS ?aL ?_; (case aR => exact HC.out); (case aB => exact B1.out); (case aF => exact (fun _ _ => trivial)); (case aO => exact R1.out); (case aS => exact B1.out.size); (case aL => have := HTL.out; omega); intro v118 w5 ho hb hg hat; have R2 := Aside0.mk ho; have B2 := Aside0.mk hb; clear ho hb hg hat))
          go_roundg (ls.length - (i + 1))
          case measure => have := A2.out; have := C2.out; omega
          case rel =>
            refine ⟨i + 1, ?_, ⟨C2.out, Nat.le_refl _⟩, ⟨by rw [HTK.out]; exact R2.out⟩, B2⟩
            congr 1; have := HL.out; have := C2.out; unfold wrap64; omega
        · have hi : i = ls.length := by have := A2.out; omega
          have c2t : ((i : Int) < (ls.length : Int)) = False := eq_false (by omega)
          have hfl : (ls.take i).flatten = ls.flatten := by rw [hi, List.take_length]
          rw [hfl] at R1 ⊢
          obtain ⟨ys, hys⟩ : ∃ ys, ys = ls.flatten := ⟨_, rfl⟩
          rw [← hys] at R1 ⊢
          have HY := Aside0.mk hys
          clear c2 hi hfl hys
          go_wp2
          go_ret
          rw [← HY.out]
          exact ⟨_, rfl, R1.out, B1.out⟩

/-! ### impl.ReplaceAt: function 51, by hand -/
/-- Where the part of a node begins. -/
def nodeFrom (a : Int) (Ts : List Tree.Tr) : Nat := a.toNat + 1 - (Ts.getD a.toNat (.mk 0 0 [])).flat.length
def impl_ReplaceAt.f (l0 : List S87) (a1 : Int) (l2 : List S87) : Option (List S87 × Bool) :=
  match Tree.treesOf (toP l0) with
  | none => some ([], false)
  | some Ts => if (0 ≤ a1 ∧ a1 ≤ (l0.length : Int) - 1) ∧ (Tree.treeOf (toP l2)).isSome = true then some (goodF (l0.take (nodeFrom a1 Ts) ++ (l2 ++ l0.drop (a1.toNat + 1)))) else some ([], false)
set_option maxHeartbeats 8000000 in
set_option maxRecDepth 100000 in
theorem ReplaceAt_bad (A0 : Option Addr) (c0 : Nat) (l0 : List S87) (a1 : Int) (A2 : Option Addr) (c2 : Nat) (l2 : List S87) (w : World) (hr0 : Kd.C k87 w A0 l0.length l0) (hc0 : l0.length ≤ c0) (hr2 : Kd.C k87 w A2 l2.length l2) (hc2 : l2.length ≤ c2)
    (h : Tree.treesOf (toP l0) = none ∨ ((∃ Ts, Tree.treesOf (toP l0) = some Ts) ∧ (¬ (0 ≤ a1 ∧ a1 ≤ (l0.length : Int) - 1) ∨ ((0 ≤ a1 ∧ a1 ≤ (l0.length : Int) - 1) ∧ (Tree.treeOf (toP l2)).isSome = false)))) :
    Calls Try.prog 51 #[.slice A0 l0.length c0, .int .i64 a1, .slice A2 l2.length c2] w fun e w' => e = .returned (.tuple #[.slice none 0 0, .bool false]) ∧ Below w.heap.size w w' := by
  have HT := Aside0.mk (impl_trees.calls A0 c0 l0 w hr0 hc0)
  rcases h with hT | ⟨⟨Ts, hT⟩, h⟩
  · rw [hT] at HT
    clear hr0 hc0 hr2 hc2 hT
    have hnil := fun W => Lib.run_eql_slice_nil (P := Try.prog) W 95 91 none 0 0 0 0 Try.underlying95
    go_enter Try.func51, Try.ntmps51
    go_wp2_with (go_at_call 83; refine HT.out.mono ?_; rintro e w' ⟨v, rfl, hR, hb⟩; obtain rfl := hR.out; have HB := Aside0.mk hb; clear hR hb)
    go_ret2
    exact ⟨rfl, HB.out⟩
  · rw [hT] at HT
    have hat := (Tree.treesOf_at hT).1
    have hl := (Tree.treesOf_ok hT)
    rw [toP_len] at hl hat
    have hw1 : wrap64 ((l0.length : Int) - 1) = (l0.length : Int) - 1 := by unfold wrap64; omega
    have hnil := fun W ad n c => Lib.run_eql_slice_nil (P := Try.prog) W 95 91 (some ad) n c 0 0 Try.underlying95
    have hW := fun W => withinC a1 0 ((l0.length : Int) - 1) W
    have HG : Aside0 (∀ W, Below w.heap.size w W → Calls Try.prog 23 #[.slice A2 l2.length c2] W fun e w' => e = .returned (.bool (Tree.treeOf (toP l2)).isSome) ∧ Below w.heap.size w w') := ⟨fun W hW => (impl_GoodTerm.told A2 c2 l2 W (Kd.C_below hr2 hW) hc2).mono fun e w' ⟨h, k⟩ => ⟨h, below_step hW k⟩⟩
    have HT2 : Aside0 (Calls Try.prog 83 #[.slice A0 l0.length c0] w fun e w' => ∃ (ad : Addr) (n c : Nat), e = .returned (.slice (some ad) n c) ∧ Aside0 (Below w.heap.size w w')) := by
      refine ⟨HT.out.mono ?_⟩
      rintro e w' ⟨v, rfl, hR, hb⟩
      obtain ⟨az, hpos, hRR, hTT⟩ := hR.out
      obtain ⟨A, c, rfl, hc, hC⟩ := Tree.row_slice hRR
      have hl : az.length = Ts.length := hTT.1
      obtain ⟨ad, rfl, hcell⟩ := Tree.ptr_at hC 0 (by rw [hl]; exact hpos)
      exact ⟨ad, _, c, rfl, ⟨hb⟩⟩
    clear hr0 hc0 hr2 hc2 hT HT hat hl
    rcases h with hin | ⟨hin, hg⟩
    · rw [decide_eq_false hin] at hW
      clear hin HG
      go_enter Try.func51, Try.ntmps51
      go_wp2_with (first | (go_at_call 83; (with_reducible refine HT2.out.mono ?_); rintro e w1 ⟨ad, n, c, rfl, HX⟩) | (go_at_call 84; refine (hW _).mono ?_; rintro e w2 ⟨rfl, ⟨q, rfl⟩⟩))
      go_ret2
      exact ⟨rfl, pw_below_drewN HX.out q⟩
    · rw [decide_eq_true hin] at hW
      rw [hg] at HG
      clear hin hg
      go_enter Try.func51, Try.ntmps51
      go_wp2_with (first | (go_at_call 83; (with_reducible refine HT2.out.mono ?_); rintro e w1 ⟨ad, n, c, rfl, HX⟩) | (go_at_call 84; refine (hW _).mono ?_; rintro e w2 ⟨rfl, ⟨q, rfl⟩⟩) | (go_at_call 23; (with_reducible refine (HG.out _ (pw_below_drewN HX.out _)).mono ?_); rintro e w3 ⟨rfl, hb⟩; have HB := Aside0.mk hb; clear hb))
      go_ret2
      exact ⟨rfl, HB.out⟩
theorem C_three {w : World} {g : Nat} {A0 A1 A2 : Option Addr} {c0 c1 c2 : Nat} {x y z : List S87} (hg : w.heap[g]? = some (.cells #[.slice A0 x.length c0, .slice A1 y.length c1, .slice A2 z.length c2] 25 (0, 0)))
    (h0 : Kd.C k87 w A0 x.length x) (k0 : x.length ≤ c0) (h1 : Kd.C k87 w A1 y.length y) (k1 : y.length ≤ c1) (h2 : Kd.C k87 w A2 z.length z) (k2 : z.length ≤ c2) :
    Kd.C (Kd.slice 87 k87) w (some ⟨g, 0, none⟩) 3 [x, y, z] := by
  refine ⟨rfl, by decide, fun _ => ⟨_, rfl, fun j p hj => ?_⟩⟩
  have hc : ∀ i, w.cell? ((⟨g, 0, none⟩ : Addr).add i) = (#[Value.slice A0 x.length c0, .slice A1 y.length c1, .slice A2 z.length c2])[i]? := fun i => by rw [add_plain]; exact blk_cell hg i
  match j with
  | 0 =>
    injection hj with hj
    subst hj
    refine ⟨[.slice A0 x.length c0], rfl, ⟨A0, c0, rfl, k0, h0⟩, fun i u hi => ?_⟩
    match i with
    | 0 => injection hi with hi; subst hi; exact hc 0
    | i + 1 => exact absurd hi (by simp)
  | 1 =>
    injection hj with hj
    subst hj
    refine ⟨[.slice A1 y.length c1], rfl, ⟨A1, c1, rfl, k1, h1⟩, fun i u hi => ?_⟩
    match i with
    | 0 => injection hi with hi; subst hi; exact hc 1
    | i + 1 => exact absurd hi (by simp)
  | 2 =>
    injection hj with hj
    subst hj
    refine ⟨[.slice A2 z.length c2], rfl, ⟨A2, c2, rfl, k2, h2⟩, fun i u hi => ?_⟩
    match i with
    | 0 => injection hi with hi; subst hi; exact hc 2
    | i + 1 => exact absurd hi (by simp)
  | j + 3 => exact absurd hj (by simp)
set_option maxHeartbeats 8000000 in
set_option maxRecDepth 100000 in
theorem ReplaceAt_good (A0 : Option Addr) (c0 : Nat) (l0 : List S87) (i : Nat) (A2 : Option Addr) (c2 : Nat) (l2 : List S87) (w : World) (hr0 : Kd.C k87 w A0 l0.length l0) (hc0 : l0.length ≤ c0) (hr2 : Kd.C k87 w A2 l2.length l2) (hc2 : l2.length ≤ c2) (Ts : List Tree.Tr)
    (hT : Tree.treesOf (toP l0) = some Ts) (hi : i < l0.length) (hU : (Tree.treeOf (toP l2)).isSome = true) :
    Calls Try.prog 51 #[.slice A0 l0.length c0, .int .i64 (i : Int), .slice A2 l2.length c2] w fun e w' => ∃ v0_ : Value, e = .returned (.tuple #[v0_, .bool (goodF (l0.take (nodeFrom (i : Int) Ts) ++ (l2 ++ l0.drop (i + 1)))).2]) ∧ Kd.R k87 87 w' w.heap.size (fun _ => True) v0_ (goodF (l0.take (nodeFrom (i : Int) Ts) ++ (l2 ++ l0.drop (i + 1)))).1 ∧ Below w.heap.size w w' := by
  have hin : 0 ≤ (i : Int) ∧ (i : Int) ≤ (l0.length : Int) - 1 := ⟨by omega, by omega⟩
  have hi1 : ((i : Int) + 1).toNat = i + 1 := by omega
  have hi2 : 0 ≤ (i : Int) + 1 := by omega
  have hi3 : (i : Int) + 1 ≤ (l0.length : Int) := by omega
  have hat := Tree.treesOf_at hT
  have hok := Tree.treesOf_ok hT
  have hul := Tree.treeOf_ok hU
  rw [toP_len] at hat hok hul
  have HT := impl_trees.calls A0 c0 l0 w hr0 hc0
  rw [hT] at HT
  have hw1 : Aside0 (wrap64 ((l0.length : Int) - 1) = (l0.length : Int) - 1) := ⟨by unfold wrap64; omega⟩
  have hw2 : Aside0 (wrap64 ((i : Int) + 1) = (i : Int) + 1) := ⟨by unfold wrap64; omega⟩
  have hw3 : Aside0 (IntKind.i64.wrap ((i : Int) + 1) = (i : Int) + 1) := ⟨by rw [IntKind.wrap_i64]; omega⟩
  obtain ⟨T, hTs, hgood, pre, hpre⟩ := hat.2 i hi
  have hsz : pre.length + T.flat.length = i + 1 := by
    have := congrArg List.length hpre
    rw [List.length_take, toP_len, List.length_append] at this
    omega
  have hfrom : i + 1 - T.flat.length = pre.length := by omega
  have hnf : nodeFrom (i : Int) Ts = pre.length := by
    unfold nodeFrom
    rw [Int.toNat_natCast, List.getD_eq_getElem?_getD, hTs]
    exact hfrom
  rw [hnf]
  have hfp := Tree.flat_pos T
  generalize pre.length = m at hfrom hsz ⊢
  have hmi : m ≤ i := by omega
  obtain ⟨in0, hin0, -, hin1, -⟩ := info_parts info87
  have hcut1 := cut_to (P := Try.prog) 25 87 .i64 Try.underlying25 hin0 A0 l0.length c0 (m : Int) (by omega) (by omega) hc0
  have hcut2 := cut_from (P := Try.prog) 25 87 .i64 Try.underlying25 hin0 2 hin1 A0 l0.length c0 ((i : Int) + 1) hi2 hi3
  simp only [Int.toNat_natCast, hi1] at hcut1 hcut2
  clear hi1 hi2 hi3
  have hC1 := Kd.C_take hr0 (show m ≤ l0.length by omega)
  have hC2 := Kd.C_drop hr0 (show i + 1 ≤ l0.length by omega) hc0
  have hl1 : (l0.take m).length = m := by rw [List.length_take]; omega
  have hl2 : (l0.drop (i + 1)).length = l0.length - (i + 1) := List.length_drop
  have HT2 : Aside0 (Calls Try.prog 83 #[.slice A0 l0.length c0] w fun e w' => ∃ (ad : Addr) (c : Nat) (a : Addr), e = .returned (.slice (some ad) l0.length c) ∧ Aside0 (w'.cell? (ad.add i) = some (.pointer (some a)) ∧ Tree.Tree w' (fun k => w.heap.size ≤ k) T a ∧ Below w.heap.size w w')) := by
    refine ⟨HT.mono ?_⟩
    rintro e w' ⟨v, rfl, hR, hb⟩
    obtain ⟨az, hpos, hRR, hTT⟩ := hR.out
    obtain ⟨A, c, rfl, hc, hC⟩ := Tree.row_slice hRR
    have hl : az.length = Ts.length := hTT.1
    obtain ⟨ad, rfl, hcell⟩ := Tree.ptr_at hC i (by rw [hl]; rw [hat.1]; exact hi)
    refine ⟨ad, c, _, by rw [hl, hat.1], ⟨hcell, ?_, hb⟩⟩
    have := hTT.2 i (by rw [hat.1]; exact hi)
    rw [(List.getElem_eq_iff (by rw [hat.1]; exact hi)).2 hTs] at this
    exact this.imp (fun k hk => hk.1)
  have HBG : Aside0 (∀ (W W' : World) (ad : Addr) (c : Nat) (a : Addr), Below W.heap.size W W' → (W.cell? (ad.add i) = some (.pointer (some a)) ∧ Tree.Tree W (fun k => w.heap.size ≤ k) T a ∧ Below w.heap.size w W) → Calls Try.prog 86 #[.slice (some ad) l0.length c, .int .i64 (i : Int)] W' fun e w' => e = .returned (.int .i64 (m : Int)) ∧ Drawn0 W' w') := by
    refine ⟨?_⟩
    rintro W W' ad c a hW' ⟨h1, h2, h3⟩
    have := impl_begin.calls ad l0.length c i a T (fun k => w.heap.size ≤ k) W' (h2.below hW') hi (by omega) (by omega) (pw_cell_below hW' h1)
    rw [hfrom] at this
    exact this
  have HG : Aside0 (∀ W, Below w.heap.size w W → Calls Try.prog 23 #[.slice A2 l2.length c2] W fun e w' => e = .returned (.bool true) ∧ Below W.heap.size W w') := ⟨fun W hW => by have := impl_GoodTerm.told A2 c2 l2 W (Kd.C_below hr2 hW) hc2; rwa [hU] at this⟩
  have HCC : Aside0 (∀ (W : World) (g : Nat), Below w.heap.size w W → W.heap[g]? = some (.cells #[.slice A0 m c0, .slice A2 l2.length c2, .slice (if c0 = i + 1 then A0 else A0.map (fun x => x.add ((i + 1) * 2))) (l0.length - (i + 1)) (c0 - (i + 1))] 25 (0, 0)) → Calls Try.prog 102 #[.slice (some ⟨g, 0, none⟩) 3 3] W fun e w' => ∃ v : Value, e = .returned v ∧ Kd.R k87 87 w' w.heap.size (fun _ => True) v (l0.take m ++ (l2 ++ l0.drop (i + 1))) ∧ Below w.heap.size w w') := by
    refine ⟨fun W g hW hg => ?_⟩
    rw [← hl1, ← hl2] at hg
    rw [hl1] at hg
    have hC := C_three (x := l0.take m) (y := l2) (z := l0.drop (i + 1)) (by rw [hl1]; exact hg) (Kd.C_below hC1 hW) (by rw [hl1]; omega) (Kd.C_below hr2 hW) hc2 (Kd.C_below hC2 hW) (by rw [hl2]; omega)
    have := Concat_nodes (some ⟨g, 0, none⟩) 3 [l0.take m, l2, l0.drop (i + 1)] W hC (Nat.le_refl _) (by simp) (by simp; omega)
    have hfl : [l0.take m, l2, l0.drop (i + 1)].flatten = l0.take m ++ (l2 ++ l0.drop (i + 1)) := by simp
    rw [hfl] at this
    refine this.mono ?_
    rintro e w' ⟨v, rfl, h1, h2⟩
    exact ⟨v, rfl, Kd.R_lower h1 hW.size, below_step hW h2⟩
  have HGL : Aside0 (∀ (W : World) (v : Value), Kd.R k87 87 W w.heap.size (fun _ => True) v (l0.take m ++ (l2 ++ l0.drop (i + 1))) → Below w.heap.size w W → Calls Try.prog 101 #[v] W fun e w' => ∃ v0 : Value, e = .returned (.tuple #[v0, .bool (goodF (l0.take m ++ (l2 ++ l0.drop (i + 1)))).2]) ∧ Aside0 (Kd.R k87 87 w' w.heap.size (fun _ => True) v0 (goodF (l0.take m ++ (l2 ++ l0.drop (i + 1)))).1 ∧ Below w.heap.size w w')) :=
    ⟨fun W v hR hW => (goodList_row v _ 0 w W hR hW).mono fun e w' ⟨v0, h1, h2, h3⟩ => ⟨v0, h1, ⟨h2, h3⟩⟩⟩
  generalize (if c0 = i + 1 then A0 else A0.map (fun x => x.add ((i + 1) * 2))) = AC at hcut2 HCC
  have hnil := fun W ad n c => Lib.run_eql_slice_nil (P := Try.prog) W 95 91 (some ad) n c 0 0 Try.underlying95
  have hWI := fun W => withinC (i : Int) 0 ((l0.length : Int) - 1) W
  rw [decide_eq_true hin] at hWI
  clear hin
  generalize (goodF (l0.take m ++ (l2 ++ l0.drop (i + 1)))).2 = gb at HGL ⊢
  generalize (goodF (l0.take m ++ (l2 ++ l0.drop (i + 1)))).1 = gl at HGL ⊢
  generalize (l0.take m ++ (l2 ++ l0.drop (i + 1))) = cl at HCC HGL
  clear hat hok hul HT hgood hpre hsz hfrom hnf hfp hmi hin0 hin1 hC1 hC2 hl1 hl2 hr0 hc0 hr2 hc2 hT hTs hU hi
  replace hw1 := hw1.out
  replace hw2 := hw2.out
  replace hw3 := hw3.out
  go_enter Try.func51, Try.ntmps51
  go_wp2_with (first | (go_at_call 83; (with_reducible refine HT2.out.mono ?_); rintro e w1 ⟨ad, c, a, rfl, HX⟩) | (go_at_call 84; refine (hWI _).mono ?_; rintro e w2 ⟨rfl, ⟨q, rfl⟩⟩) | (go_at_call 23; (with_reducible refine (HG.out _ (pw_below_drewN HX.out.2.2 _)).mono ?_); rintro e w3 ⟨rfl, hb⟩; have HB : Aside0 (Below w1.heap.size w1 w3) := ⟨below_step (pw_below_drewN (Below.refl _ _) q) hb⟩; clear hb))
  go_region_with (first | (go_at_call 86; (with_reducible refine (HBG.out _ _ _ _ _ (by repeat (first | exact HB.out | apply pw_below_drewN | apply below_drew)) HX.out).mono ?_); rintro e w4 ⟨rfl, ⟨q4, rfl⟩⟩) | (go_at_call 102; refine (HCC.out _ _ (below_alloc (pw_below_drewN (below_step HX.out.2.2 HB.out) _) _) (blk_new _ _)).mono ?_; rintro e w5 ⟨v5, rfl, hr, hb⟩; have HR5 := Aside0.mk hr; have HB5 := Aside0.mk hb; clear hr hb) | (go_at_call 101; (with_reducible refine (HGL.out _ _ HR5.out HB5.out).mono ?_); rintro e w6 ⟨v6, rfl, HZ⟩))
  all_goals
    go_wp2
    go_ret2
    exact ⟨_, rfl, HZ.out.1, HZ.out.2⟩
theorem impl_ReplaceAt.calls (A0 : Option Addr) (c0 : Nat) (l0 : List S87) (a1 : Int) (A2 : Option Addr) (c2 : Nat) (l2 : List S87) (r1 : List S87) (r2 : Bool) (w : World) (hr0 : Kd.C k87 w A0 l0.length l0) (hc0 : l0.length ≤ c0) (hr2 : Kd.C k87 w A2 l2.length l2) (hc2 : l2.length ≤ c2) (h : impl_ReplaceAt.f l0 a1 l2 = some (r1, r2)) :
    Calls Try.prog 51 #[.slice A0 l0.length c0, .int .i64 a1, .slice A2 l2.length c2] w fun e w' => ∃ v0_ : Value, e = .returned (.tuple #[v0_, .bool r2]) ∧ Kd.R k87 87 w' w.heap.size (fun _ => True) v0_ r1 ∧ Below w.heap.size w w' := by
  have bad : some (([] : List S87), false) = some (r1, r2) → (Calls Try.prog 51 #[.slice A0 l0.length c0, .int .i64 a1, .slice A2 l2.length c2] w fun e w' => e = .returned (.tuple #[.slice none 0 0, .bool false]) ∧ Below w.heap.size w w') → Calls Try.prog 51 #[.slice A0 l0.length c0, .int .i64 a1, .slice A2 l2.length c2] w fun e w' => ∃ v0_ : Value, e = .returned (.tuple #[v0_, .bool r2]) ∧ Kd.R k87 87 w' w.heap.size (fun _ => True) v0_ r1 ∧ Below w.heap.size w w' := by
    intro e hc
    obtain ⟨rfl, rfl⟩ : [] = r1 ∧ false = r2 := by simpa using e
    refine hc.mono ?_
    rintro e w' ⟨rfl, hb⟩
    exact ⟨_, rfl, Kd.R_nil _ _ _ _ _, hb⟩
  unfold impl_ReplaceAt.f at h
  cases hT : Tree.treesOf (toP l0) with
  | none =>
    rw [hT] at h
    exact bad h (ReplaceAt_bad A0 c0 l0 a1 A2 c2 l2 w hr0 hc0 hr2 hc2 (.inl hT))
  | some Ts =>
    rw [hT] at h
    simp only at h
    by_cases hin : 0 ≤ a1 ∧ a1 ≤ (l0.length : Int) - 1
    · by_cases hg : (Tree.treeOf (toP l2)).isSome = true
      · rw [if_pos ⟨hin, hg⟩] at h
        obtain ⟨i, rfl⟩ : ∃ i : Nat, a1 = (i : Int) := ⟨a1.toNat, by omega⟩
        rw [Int.toNat_natCast] at h
        injection h with h
        have := ReplaceAt_good A0 c0 l0 i A2 c2 l2 w hr0 hc0 hr2 hc2 Ts hT (by omega) hg
        rw [h] at this
        exact this
      · rw [if_neg (fun h => hg h.2)] at h
        exact bad h (ReplaceAt_bad A0 c0 l0 a1 A2 c2 l2 w hr0 hc0 hr2 hc2 (.inr ⟨⟨Ts, hT⟩, .inr ⟨hin, by simpa using hg⟩⟩))
    · rw [if_neg (fun h => hin h.1)] at h
      exact bad h (ReplaceAt_bad A0 c0 l0 a1 A2 c2 l2 w hr0 hc0 hr2 hc2 (.inr ⟨⟨Ts, hT⟩, .inl hin⟩))

end Go.Proofs.Ytlneknaiimmfmaa.PFnExactReplaceAt
