/- Functions of the program and of the reference as plain Lean functions, and what their calls come to; partly printed by a program, partly by hand; no condition beyond what each theorem says. -/
import Derived.Test.YtpklnipnggocoaaPFnExactGoodFuncx0
namespace Go.Proofs.Ytpklnipnggocoaa.PFnExactGoodFunc
open Go.RowKit Go.Proofs.YtpklnipnggocoaaW.PrintWords Go.Proofs.YtpklnipnggocoaaW.PrintLast Go.Proofs.YtpklnipnggocoaaW.PrintMore
attribute [local go_sem] max2_int min2_int max_two min_two max_three min_three max_four min_four   -- for this text's walks alone
set_option linter.unusedVariables false
set_option linter.unusedSimpArgs false

/-! ### impl_within: function 33 -/
def impl_within.f (a0 : Int) (a1 : Int) (a2 : Int) : Option (Bool) := if a0 ≥ a1 then (some (decide (a0 ≤ a2))) else (some false)
set_option maxHeartbeats 8000000 in
set_option maxRecDepth 100000 in
theorem impl_within.calls (a0 : Int) (a1 : Int) (a2 : Int) (r : Bool) (w : World) (h : impl_within.f a0 a1 a2 = some r) :
    Calls Try.prog 33 #[.int .i64 a0, .int .i64 a1, .int .i64 a2] w fun e w' => e = .returned (.bool r) ∧ Drawn0 w w' := by
  (have H : (if a0 ≥ a1 then (some (decide (a0 ≤ a2))) else (some false)) = some r := h); (clear h); (by_cases c4 : a0 ≥ a1)
  (focus ((rw [if_pos c4] at H); (have c4b0 : decide (a1 ≤ a0) = true := decide_eq_true c4); (clear c4); (obtain rfl := Option.some.inj H); (go_enter Try.func33, Try.ntmps33); (go_wp2); (go_ret); (exact ⟨by first | rfl | (simp; done) | (simp [*]; done), by repeat (first | exact Drawn0.refl _ | apply Drawn0.step)⟩))); (focus ((rw [if_neg c4] at H); (have c4b0 : decide (a1 ≤ a0) = false := decide_eq_false c4); (clear c4); (obtain rfl := Option.some.inj H); (go_enter Try.func33, Try.ntmps33); (go_wp2); (go_ret); (exact ⟨by first | rfl | (simp; done) | (simp [*]; done), by repeat (first | exact Drawn0.refl _ | apply Drawn0.step)⟩)))

/-! ### bits_Mul32: function 98 -/
def bits_Mul32.f (a0 : Int) (a1 : Int) : Option (Int × Int) := some (((IntKind.u64.wrap ((IntKind.u64.wrap (a0)) * (IntKind.u64.wrap (a1)))) / 4294967296) % 4294967296, (IntKind.u64.wrap ((IntKind.u64.wrap (a0)) * (IntKind.u64.wrap (a1)))) % 4294967296)
set_option maxHeartbeats 8000000 in
set_option maxRecDepth 100000 in
theorem bits_Mul32.calls (a0 : Int) (a1 : Int) (r1 : Int) (r2 : Int) (w : World) (h : bits_Mul32.f a0 a1 = some (r1, r2)) :
    Calls Try.prog 98 #[.int .u32 a0, .int .u32 a1] w fun e w' => e = .returned (.tuple #[.int .u32 r1, .int .u32 r2]) ∧ Drawn0 w w' := by
  (have H : (some (((IntKind.u64.wrap ((IntKind.u64.wrap (a0)) * (IntKind.u64.wrap (a1)))) / 4294967296) % 4294967296, (IntKind.u64.wrap ((IntKind.u64.wrap (a0)) * (IntKind.u64.wrap (a1)))) % 4294967296)) = some (r1, r2) := h); (clear h); (simp only [Option.some.injEq, Prod.mk.injEq] at H); (obtain ⟨rfl, rfl⟩ := H); (go_enter Try.func98, Try.ntmps98); (go_wp2); (go_ret2); (exact ⟨by first | rfl | (simp; done) | (simp [*]; done), by repeat (first | exact Drawn0.refl _ | apply Drawn0.step)⟩)

/-! ### bits_Mul64: function 99 -/
def bits_Mul64.f (a0 : Int) (a1 : Int) : Option (Int × Int) := some (IntKind.u64.wrap ((IntKind.u64.wrap ((IntKind.u64.wrap ((a0 / 4294967296) * (a1 / 4294967296))) + ((IntKind.u64.wrap ((IntKind.u64.wrap ((a0 / 4294967296) * (Go.bits .and .u64 a1 4294967295))) + ((IntKind.u64.wrap ((Go.bits .and .u64 a0 4294967295) * (Go.bits .and .u64 a1 4294967295))) / 4294967296))) / 4294967296))) + ((IntKind.u64.wrap ((Go.bits .and .u64 (IntKind.u64.wrap ((IntKind.u64.wrap ((a0 / 4294967296) * (Go.bits .and .u64 a1 4294967295))) + ((IntKind.u64.wrap ((Go.bits .and .u64 a0 4294967295) * (Go.bits .and .u64 a1 4294967295))) / 4294967296))) 4294967295) + (IntKind.u64.wrap ((Go.bits .and .u64 a0 4294967295) * (a1 / 4294967296))))) / 4294967296)), IntKind.u64.wrap (a0 * a1))
set_option maxHeartbeats 8000000 in
set_option maxRecDepth 100000 in
theorem bits_Mul64.calls (a0 : Int) (a1 : Int) (r1 : Int) (r2 : Int) (w : World) (h : bits_Mul64.f a0 a1 = some (r1, r2)) :
    Calls Try.prog 99 #[.int .u64 a0, .int .u64 a1] w fun e w' => e = .returned (.tuple #[.int .u64 r1, .int .u64 r2]) ∧ Drawn0 w w' := by
  (have H : (some (IntKind.u64.wrap ((IntKind.u64.wrap ((IntKind.u64.wrap ((a0 / 4294967296) * (a1 / 4294967296))) + ((IntKind.u64.wrap ((IntKind.u64.wrap ((a0 / 4294967296) * (Go.bits .and .u64 a1 4294967295))) + ((IntKind.u64.wrap ((Go.bits .and .u64 a0 4294967295) * (Go.bits .and .u64 a1 4294967295))) / 4294967296))) / 4294967296))) + ((IntKind.u64.wrap ((Go.bits .and .u64 (IntKind.u64.wrap ((IntKind.u64.wrap ((a0 / 4294967296) * (Go.bits .and .u64 a1 4294967295))) + ((IntKind.u64.wrap ((Go.bits .and .u64 a0 4294967295) * (Go.bits .and .u64 a1 4294967295))) / 4294967296))) 4294967295) + (IntKind.u64.wrap ((Go.bits .and .u64 a0 4294967295) * (a1 / 4294967296))))) / 4294967296)), IntKind.u64.wrap (a0 * a1))) = some (r1, r2) := h); (clear h); (simp only [Option.some.injEq, Prod.mk.injEq] at H); (obtain ⟨rfl, rfl⟩ := H); (go_enter Try.func99, Try.ntmps99); (go_wp2); (go_ret2); (exact ⟨by first | rfl | (simp; done) | (simp [*]; done), by repeat (first | exact Drawn0.refl _ | apply Drawn0.step)⟩)

/-! ### bits_Mul: function 87 -/
def bits_Mul.f (a0 : Int) (a1 : Int) : Option (Int × Int) := (bits_Mul64.f a0 a1).bind fun bt228 => (some (bt228.1, bt228.2))
set_option maxHeartbeats 8000000 in
set_option maxRecDepth 100000 in
theorem bits_Mul.calls (a0 : Int) (a1 : Int) (r1 : Int) (r2 : Int) (w : World) (h : bits_Mul.f a0 a1 = some (r1, r2)) :
    Calls Try.prog 87 #[.int .u64 a0, .int .u64 a1] w fun e w' => e = .returned (.tuple #[.int .u64 r1, .int .u64 r2]) ∧ Drawn0 w w' := by
  (have H : ((bits_Mul64.f a0 a1).bind fun bt228 => (some (bt228.1, bt228.2))) = some (r1, r2) := h); (clear h); (replace H := Option.bind_eq_some_iff.mp H); (obtain ⟨⟨t228, t229⟩, A30, H⟩ := H); (replace H : (some (t228, t229)) = some (r1, r2) := H); (have A3 := Aside0.mk A30); (clear A30); (simp only [Option.some.injEq, Prod.mk.injEq] at H); (obtain ⟨rfl, rfl⟩ := H); (go_enter Try.func87, Try.ntmps87); (go_wp2_with (first | ((with_reducible refine gate_callee (f := 99) rfl ?_); refine goesL_ (some 25) rfl rfl Try.func99 (by kernel_rfl) rfl #[.int .u64 a0, .int .u64 a1] rfl eqQ ?_; (with_reducible refine (bits_Mul64.calls a0 a1 t228 t229 _ A3.out).mono ?_); rintro e w' ⟨rfl, ⟨nd, rfl⟩⟩; refine ⟨_, rfl, ?_⟩))); (go_ret2); (exact ⟨by first | rfl | (simp; done) | (simp [*]; done), by repeat (first | exact Drawn0.refl _ | apply Drawn0.step)⟩)

/-! ### slices.Repeat[[]int,int]: function 68, by hand -/
theorem and_low (m : Nat) (h : m < 4294967296) : Go.bits .and .u64 (m : Int) 4294967295 = (m : Int) := by
  (show IntKind.u64.wrap ((BitVec.ofInt 64 (m : Int) &&& BitVec.ofInt 64 ((4294967295 : Nat) : Int)).toNat : Int) = m); (rw [BitVec.toNat_and, BitVec.ofInt_natCast, BitVec.ofInt_natCast, BitVec.toNat_ofNat, BitVec.toNat_ofNat]); (rw [Nat.mod_eq_of_lt (show m < 2 ^ 64 by omega), show 4294967295 % 2 ^ 64 = 2 ^ 32 - 1 by decide, Nat.and_two_pow_sub_one_eq_mod, Nat.mod_eq_of_lt (show m < 2 ^ 32 by omega), IntKind.wrap_u64]); (omega)
theorem mul_one_small (m : Nat) (h : m < 4294967296) : bits_Mul.f 1 (m : Int) = some (0, (m : Int)) := by
  (have e1 := and_low m h); (have e2 := and_low 1 (by decide)); (have e0 := and_low 0 (by decide)); (have e3 : (m : Int) / 4294967296 = 0 := by omega); (have e4 : (1 : Int) / 4294967296 = 0 := by decide); (unfold bits_Mul.f bits_Mul64.f); (simp only [Option.bind_some]); (rw [show ((1 : Nat) : Int) = 1 from rfl] at e2); (rw [show ((0 : Nat) : Int) = 0 from rfl] at e0); (simp only [e1, e2, e3, e4, Int.mul_zero, Int.zero_mul, Int.one_mul, Int.mul_one, Int.add_zero, Int.zero_add, IntKind.wrap_u64]); (have e5 : (m : Int) % 18446744073709551616 = m := by omega); (simp [e5, e3, e0])
/-- Some cells of a row of numbers written. -/
theorem R_puts {w : World} {base g n cap : Nat} {ok : Nat → Prop} (ys : List Int) : ∀ (xs : List Int) (o : Nat) (W : World), (Kd.int .i64).R 3 W base ok (.slice (some ⟨g, 0, none⟩) n cap) xs → Below w.heap.size w W → w.heap.size ≤ g → ∃ L, L.length = xs.length ∧ (Kd.int .i64).R 3 (W.setCells g o (ys.map fun y => Value.int .i64 y)) base ok (.slice (some ⟨g, 0, none⟩) n cap) L ∧ Below w.heap.size w (W.setCells g o (ys.map fun y => Value.int .i64 y)) := by
  induction ys with
  | nil => intro xs o W h hb hg; exact ⟨xs, rfl, h, hb⟩
  | cons y ys ih =>
    (intro xs o W h hb hg); (have h1 := (Kd.R_putg h (o : Int) y).1); (rw [Int.toNat_natCast] at h1); (obtain ⟨L, hl, hL, hB⟩ := ih (xs.set o y) (o + 1) _ h1 (below_set hb hg) hg); (exact ⟨L, by rw [hl, List.length_set], hL, hB⟩)
set_option maxHeartbeats 4000000 in
set_option maxRecDepth 100000 in
theorem repeat_told (A : Option Addr) (c : Nat) (x : Int) (n : Nat) (hn : n ≤ 1000000) (w : World) (hr : Kd.C (Kd.int .i64) w A 1 [x]) (hc : 1 ≤ c) :
    Calls Try.prog 68 #[.slice A 1 c, .int .i64 (n : Int)] w fun e w' => ∃ v L, e = .returned v ∧ Aside0 (Kd.R (Kd.int .i64) 3 w' w.heap.size (fun _ => True) v L ∧ L.length = n ∧ Below w.heap.size w w') := by
  (have HMU : Aside0 (∀ W, Calls Try.prog 87 #[.int .u64 1, .int .u64 (n : Int)] W fun e w' => e = .returned (.tuple #[.int .u64 0, .int .u64 (n : Int)]) ∧ Drawn0 W w') := ⟨fun W => bits_Mul.calls 1 n _ _ W (mul_one_small n (by omega))⟩); (have HR := Aside0.mk hr); (have HN := Aside0.mk hn); (have c0 : decide ((n : Int) < 0) = false := decide_eq_false (by omega)); (have c1 : ((n : Int) < 0) = False := eq_false (by omega)); (have u1 : IntKind.u64.wrap (n : Int) = (n : Int) := by rw [IntKind.wrap_u64]; omega); (have u2 : wrap64 (n : Int) = (n : Int) := by unfold wrap64; omega); (have u3 : ((9223372036854775807 : Int) < (n : Int)) = False := eq_false (by omega)); (have u4 : decide ((9223372036854775807 : Int) < (n : Int)) = false := decide_eq_false (by omega)); (have n0 : (0 : Int) ≤ (n : Int) := by omega); (have HB := Aside0.mk (Below.refl w.heap.size w)); (clear hr hn hc); (go_enter Try.func68, Try.ntmps68); (go_wp2_with (first | (go_at_call 87; (with_reducible refine (HMU.out _).mono ?_); rintro e w1 ⟨rfl, ⟨q, rfl⟩⟩) | ((with_reducible refine gate_dst (N := 30) rfl ?_); refine Kd.R_make (Kd.int .i64) _ 3 rfl (N := 30) rfl 55 _ _ rfl (wrap64 (n : Int)) rfl rfl Try.underlying55 (.int .i64 0) 8 info3 rfl (by decide) (by omega) 0 (ok := fun _ => True) (okp := fun _ => True) rfl (fun _ hk => hk) trivial (by rw [u2]; exact n0) (by rw [u2]; have := HN.out; omega) (Below.refl _ _) (Nat.le_refl _) ?_; intro v w2 ho hb hg_ hnew_; rw [u2, Int.toNat_natCast] at ho; obtain ⟨Av, cv, hv⟩ := Kd.R_slice ho; rw [List.length_replicate] at hv; subst hv; have HO := Aside0.mk (Kd.R_lower ho (below_size (by (repeat (first | exact HB.out | apply pw_below_drewN | apply below_drew1))))); have HB2 : Aside0 (Below w.heap.size w w2) := Aside0.mk (below_step (by (repeat (first | exact HB.out | apply pw_below_drewN | apply below_drew1))) hb); clear hb ho hg_ hnew_) | ((with_reducible refine gate_builtin (b := .copy) (xs := #[.tmp 31, .tmp 32]) rfl ?_); refine Kd.R_copy (0 : Int) (w0 := w) w.heap.size rfl (.tmp 31) (.tmp 32) 55 55 3 rfl Try.underlying55 (by rw [show (Try.prog.info? 3).map (fun i => i.size) = ((Try.prog.info? 3).map (fun i => (i.zero, i.size, i.bytes))).map (fun t => t.2.1) by rw [Option.map_map]; rfl, info3]; rfl) (.slice Av n cv) (List.replicate n (0 : Int)) [x] A 1 c (fun _ => True) rfl rfl HO.out (Kd.C_below HR.out HB2.out) HB2.out (below_size HB2.out) ?_; intro w3 ho3 hb3 hg3; have HO3 := Aside0.mk ho3; have HB3 := Aside0.mk hb3; clear ho3 hb3 hg3)))
  go_loopg [8] n (fun gg v8 W => ∃ (m : Nat) (L : List Int), v8 = .int .i64 (m : Int) ∧ Aside0 (m ≤ n ∧ (n = 0 ∨ 1 ≤ m) ∧ n - m ≤ gg) ∧ Aside0 (L.length = n) ∧ Aside0 (Kd.R (Kd.int .i64) 3 W w.heap.size (fun _ => True) (.slice Av n cv) L) ∧ Aside0 (Below w.heap.size w W))
  case atStart => exact ⟨min 1 n, _, rfl, ⟨by omega, by omega, by omega⟩, ⟨by rw [List.length_append, List.length_take, List.length_drop, List.length_replicate]; simp only [List.length_cons, List.length_nil]; omega⟩, HO3, HB3⟩
  case round =>
    (clear HO HB2 HO3 HB3 HMU HR); (obtain ⟨m, L, rfl, M1, HL, HO, HBr⟩ := hrel); (by_cases cm : m < n)
    · obtain ⟨g, cap, e, gb, gl, -⟩ := Kd.R_form HO.out (by rw [HL.out]; omega)
      (rw [HL.out] at e); (injection e with e1 _ e3); (subst e1 e3); (have hcap : n ≤ cv := (Kd.R_reads' HO.out).2.1); (have hcell := fun (j : Nat) (hj : j < n) => Kd.R_celln 0 HO.out (j : Int) (by omega) (by omega))
      have hcp : (Builtin.copy_ #[55, 55] 3 #[.slice (some ⟨g, m, none⟩) (n - m) (cv - m), .slice (some ⟨g, 0, none⟩) m cv]).run Try.prog wr.drew = .ok (goInt ((min m (n - m) : Nat) : Int)) (wr.drew.setCells g m ((L.take (min m (n - m))).map fun y => Value.int .i64 y)) := by
        have hlen : ((L.take (min m (n - m))).map fun y => Value.int .i64 y).length = Nat.min m (n - m) := by rw [List.length_map, List.length_take, HL.out]; show min (min m (n - m)) n = min m (n - m); omega
        have := run_copy_cells (P := Try.prog) wr.drew 55 55 3 3 g m (n - m) (cv - m) ⟨g, 0, none⟩ m cv ((L.take (min m (n - m))).map fun y => Value.int .i64 y) Try.underlying55 (by rw [show (Try.prog.info? 3).map (fun i => i.size) = ((Try.prog.info? 3).map (fun i => (i.zero, i.size, i.bytes))).map (fun t => t.2.1) by rw [Option.map_map]; rfl, info3]; rfl) hlen
          (fun j u hj => by
            (rw [List.getElem?_map] at hj); (obtain ⟨y, hy, rfl⟩ := Option.map_eq_some_iff.1 hj); (obtain ⟨hjl, ey⟩ := List.getElem?_eq_some_iff.1 hy); (rw [List.length_take, HL.out] at hjl); (have h0 := (hcell j (by omega)).1); (rw [Int.toNat_natCast] at h0); (rw [show (⟨g, 0, none⟩ : Addr).add j = ⟨g, j, none⟩ by unfold Addr.add; split <;> simp_all, World.cell?_drew, h0, ← ey, List.getElem_take]); (congr 2); (show rdOf 0 L (j : Int) = _); (unfold rdOf); (rw [Int.toNat_natCast, List.getD_eq_getElem?_getD, List.getElem?_eq_getElem (by rw [HL.out]; omega)])
            rfl)
          (fun j hj => by
            (rw [hlen] at hj); (have hj' : j < min m (n - m) := hj); (have h0 := (hcell (m + j) (by omega)).1); (rw [Int.toNat_natCast] at h0)
            rw [World.cell?_drew, h0]; rfl)
          (fun j hj => by
            (rw [hlen] at hj); (have hj' : j < min m (n - m) := hj); (have h0 := (hcell (m + j) (by omega)).2); (rw [Int.toNat_natCast] at h0)
            exact h0)
          (fun v hv => by
            obtain ⟨y, -, rfl⟩ := List.mem_map.1 hv
            rfl)
        (rw [hlen] at this); (exact this)
      (have cmt : ((m : Int) < (n : Int)) = True := eq_true (by omega)); (have cml : ((m : Int) ≤ (n : Int)) = True := eq_true (by omega)); (have cm0 : ((0 : Int) ≤ (m : Int)) = True := eq_true (by omega)); (have hmc : (m ≤ cv) = True := eq_true (by omega)); (have hmc2 : ((m : Int) ≤ (cv : Int)) = True := eq_true (by omega)); (have hnc : (n ≤ cv) = True := eq_true hcap); (have hcm : (cv = m) = False := eq_false (by omega)); (obtain ⟨L2, hl2, hR2, hB2⟩ := R_puts (w := w) (L.take (min m (n - m))) L m wr.drew (Kd.R_drew HO.out) (below_drew1 HBr.out) gb); (have HR2 := Aside0.mk hR2); (have HB2 := Aside0.mk hB2); (have HL2 : Aside0 (L2.length = n) := ⟨by rw [hl2, HL.out]⟩); (generalize wr.drew.setCells g m ((L.take (min m (n - m))).map fun y => Value.int .i64 y) = W2 at hcp HR2 HB2); (have CM := Aside0.mk cm); (clear hcell gl hl2 hR2 hB2 hcap cm)
      go_upto_region 9 with (fail)
      (refine wp_region_held_drew (S := (fun w' => True)) (by kernel_rfl) ⟨⟩ (fun hHeld => ?_)); (refine wpAnyH_take (i := 0) (oi := ⟨some 38, _, _, _, _, _⟩) (v := ?_) rfl (by kernel_rfl) (by kernel_rfl) (by kernel_rfl) (fun _ _ _ h => h) (Or.inl ⟨by rfl, ?_⟩) (by assumption) ?_)
      case refine_2 => (intro w hSw; (try dsimp only at hSw); first | (go_simp; done) | (go_simp; with_reducible rfl))
      (try simp only [Act.put, List.setIfInBounds_toArray, List.set_cons_zero, List.set_cons_succ]); (refine wpAnyH_take (i := 1) (oi := ⟨some 39, _, _, _, _, _⟩) (v := ?_) rfl (by kernel_rfl) (by kernel_rfl) (by kernel_rfl) (fun _ _ _ h => h) (Or.inl ⟨by rfl, ?_⟩) (by assumption) ?_)
      case refine_2 => (intro w hSw; (try dsimp only at hSw); first | (go_simp; done) | (go_simp; with_reducible rfl))
      (try simp only [Act.put, List.setIfInBounds_toArray, List.set_cons_zero, List.set_cons_succ]); (refine wpAnyH_take (i := 2) (oi := ⟨some 40, _, _, _, _, _⟩) (v := ?_) rfl (by kernel_rfl) (by kernel_rfl) (by kernel_rfl) (fun _ _ _ h => h) (Or.inl ⟨by rfl, ?_⟩) (by assumption) ?_)
      case refine_2 => (intro w hSw; (try dsimp only at hSw); first | (go_simp; done) | (go_simp; with_reducible rfl))
      (try simp only [Act.put, List.setIfInBounds_toArray, List.set_cons_zero, List.set_cons_succ]); (refine wpAnyH_take (i := 3) (oi := ⟨some 41, _, _, _, _, _⟩) (v := ?_) rfl (by kernel_rfl) (by kernel_rfl) (by kernel_rfl) (fun _ _ _ h => h) (Or.inl ⟨by rfl, ?_⟩) (by assumption) ?_)
      case refine_2 => (intro w hSw; (try dsimp only at hSw); first | (go_simp; done) | (go_simp; with_reducible rfl))
      (try simp only [Act.put, List.setIfInBounds_toArray, List.set_cons_zero, List.set_cons_succ]); (refine wpAnyH_take (i := 4) (oi := ⟨some 42, _, _, _, _, _⟩) (v := ?_) rfl (by kernel_rfl) (by kernel_rfl) (by kernel_rfl) (fun _ _ _ h => h) (Or.inl ⟨by rfl, ?_⟩) (by assumption) ?_)
      case refine_2 => (intro w hSw; (try dsimp only at hSw); first | (go_simp; done) | (go_simp; with_reducible rfl))
      (try simp only [Act.put, List.setIfInBounds_toArray, List.set_cons_zero, List.set_cons_succ]); (refine wpAnyH_take (i := 5) (oi := ⟨some 43, _, _, _, _, _⟩) (v := ?_) rfl (by kernel_rfl) (by kernel_rfl) (by kernel_rfl) (fun _ _ _ h => h) (Or.inl ⟨by rfl, ?_⟩) (by assumption) ?_)
      case refine_2 => (intro w hSw; (try dsimp only at hSw); first | (go_simp; done) | (go_simp; with_reducible rfl))
      (try simp only [Act.put, List.setIfInBounds_toArray, List.set_cons_zero, List.set_cons_succ]); (refine wpAnyH_take (i := 6) (oi := ⟨some 44, _, _, _, _, _⟩) (v := ?_) rfl (by kernel_rfl) (by kernel_rfl) (by kernel_rfl) (fun _ _ _ h => h) (Or.inl ⟨by rfl, ?_⟩) (by assumption) ?_)
      case refine_2 => (intro w hSw; (try dsimp only at hSw); first | (go_simp; done) | (go_simp; with_reducible rfl))
      (try simp only [Act.put, List.setIfInBounds_toArray, List.set_cons_zero, List.set_cons_succ]); (refine wpAnyH_ready (rs := [7]) (by kernel_rfl) (by simp) (AllReadyH.cons (o := ⟨some 45, _, _, _, _, _⟩) rfl (fun K hK => ?_) AllReadyH.nil)); (go_simp); (refine hK.out _ _ ⟨⟩ (fun hHeld => ?_)); (clear hK K); (try simp only [Act.put, List.setIfInBounds_toArray, List.set_cons_zero, List.set_cons_succ]); (refine wpAnyH_take (i := 8) (oi := ⟨some 46, _, _, _, _, _⟩) (v := ?_) rfl (by kernel_rfl) (by kernel_rfl) (by kernel_rfl) (fun _ _ _ h => h) (Or.inl ⟨by rfl, ?_⟩) (by assumption) ?_)
      case refine_2 => (intro w hSw; (try dsimp only at hSw); first | (go_simp; done) | (go_simp; with_reducible rfl))
      (try simp only [Act.put, List.setIfInBounds_toArray, List.set_cons_zero, List.set_cons_succ]); (refine wpAnyH_take (i := 9) (oi := ⟨some 8, _, _, _, _, _⟩) (v := ?_) rfl (by kernel_rfl) (by kernel_rfl) (by kernel_rfl) (fun _ _ _ h => h) (Or.inl ⟨by rfl, ?_⟩) (by assumption) ?_)
      case refine_2 => (intro w hSw; (try dsimp only at hSw); first | (go_simp; done) | (go_simp; with_reducible rfl))
      (try simp only [Act.put, List.setIfInBounds_toArray, List.set_cons_zero, List.set_cons_succ]); (refine wpAnyH_done (by kernel_rfl) ?_ _); (go_wp2); (go_roundg (n - (m + min m (n - m))))
      case measure => have := M1.out; have := CM.out; omega
      case rel => exact ⟨m + min m (n - m), L2, by congr 1; (try rw [i64_w]); have := CM.out; have := HN.out; unfold wrap64; omega, ⟨by have := CM.out; omega, by have := M1.out; have := CM.out; omega, Nat.le_refl _⟩, HL2, HR2, HB2⟩
    (focus ((have cmt : ((m : Int) < (n : Int)) = False := eq_false (by omega)); (clear cm); (go_wp2); (go_ret); (exact ⟨_, L, rfl, ⟨HO.out, HL.out, HBr.out⟩⟩)))

end Go.Proofs.Ytpklnipnggocoaa.PFnExactGoodFunc
