/- The program's OddInverse and the law's function, walked: what they come to as plain Lean functions; under the condition that the library's table lies in its variable. -/
import Derived.Test.YtgklegikmkepgaaDoorPFnExactOddInversex1
import Derived.Shelf.Spec.TrailingZeros
set_option linter.unusedVariables false
set_option linter.unusedSimpArgs false
namespace Go.Proofs.YtgklegikmkepgaaDoor.Odd
open Go Go.RowKit Go.Shelf Go.Proofs.YtgklegikmkepgaaDoor.PFnExactOddInverse Go.Proofs.YtgklegikmkepgaaDoorW.PrintWords Go.Proofs.YtgklegikmkepgaaDoorW.PrintLast Go.Proofs.YtgklegikmkepgaaDoorW.PrintMore
def ren : Go.Shelf.Ren := ⟨fun | 29 => 12 | n => n, fun | 22 => 30 | 3 => 3 | 4 => 4 | 25 => 28 | 54 => 34 | 0 => 0 | 5 => 5 | n => n, fun | 1 => 0 | n => n⟩
theorem lays : Go.Proofs.Lays7.n29 Tryd.prog ren := {
  mixed := by kernel_rfl
  f29 := Tryd.func12.trans (congrArg some (by kernel_rfl))
  t0 := Tryd.underlying0
  a0 := Tryd.isAgg0
  z0 := Tryd.sizeOf0
  v0 := Tryd.zeroValue0
  i0 := by kernel_rfl
  t3 := Tryd.underlying3
  a3 := Tryd.isAgg3
  z3 := Tryd.sizeOf3
  v3 := Tryd.zeroValue3
  i3 := by kernel_rfl
  t4 := Tryd.underlying4
  a4 := Tryd.isAgg4
  z4 := Tryd.sizeOf4
  v4 := Tryd.zeroValue4
  i4 := by kernel_rfl
  t5 := Tryd.underlying5
  a5 := Tryd.isAgg5
  z5 := Tryd.sizeOf5
  v5 := Tryd.zeroValue5
  i5 := by kernel_rfl
  t22 := Tryd.underlying30
  a22 := Tryd.isAgg30
  z22 := Tryd.sizeOf30
  v22 := Tryd.zeroValue30
  i22 := by kernel_rfl
  t25 := Tryd.underlying28
  a25 := Tryd.isAgg28
  z25 := Tryd.sizeOf28
  v25 := Tryd.zeroValue28
  i25 := by kernel_rfl
  t54 := Tryd.underlying34
  a54 := Tryd.isAgg34
  z54 := Tryd.sizeOf34
  g1 := by kernel_rfl }
theorem tz (x : Nat) (hx : x < 18446744073709551616) (w : World) (hT : TabAt 0 Lib.deBruijn64tab w) :
    Calls Tryd.prog 12 #[.int .u64 x] w fun e w' => e = .returned (.int .i64 (Lib.ctz 64 x)) ∧ w' = w := Any7.bits_TrailingZeros64 lays x hx w (fun _ => hT)
/-- The loop of the program's OddInverse. -/
def loop (a : Int) : Nat → Int → Option Int
  | 0, _ => none
  | k + 1, x => if wrap64 (x * a) = 1 then some x else loop a k (wrap64 (x * wrap64 (2 - wrap64 (x * a))))
theorem ctz_odd (x : Nat) (h : x % 2 = 1) : Lib.ctz 64 x = 0 := by
  unfold Lib.ctz
  rw [if_neg (by omega)]
  unfold Lib.ctzFrom
  rw [if_pos h]
theorem ctz_even (x : Nat) (h : x % 2 = 0) : Lib.ctz 64 x ≠ 0 := by
  unfold Lib.ctz
  split
  · decide
  · unfold Lib.ctzFrom
    rw [if_neg (by omega)]
    omega
theorem tab_drewN {w : World} {n : Nat} {g : Nat} {l : List Nat} (h : TabAt g l w) : TabAt g l (w.drewN n) := fun j hj => by have := h j hj; simpa using this
set_option maxHeartbeats 4000000 in
set_option maxRecDepth 100000 in
theorem impl_even (a : Int) (w : World) (hT : TabAt 0 Lib.deBruijn64tab w) (he : a % 2 = 0) :
    Calls Tryd.prog 7 #[.int .i64 a] w fun e w' => e = .returned (.tuple #[.int .i64 0, .bool false]) ∧ Drawn0 w w' := by
  obtain ⟨x, hx⟩ : ∃ x : Nat, x = (a % 18446744073709551616).toNat := ⟨_, rfl⟩
  have hx1 : IntKind.u64.wrap a = (x : Int) := by rw [IntKind.wrap_u64]; omega
  have hc := ctz_even x (by omega)
  have HTZ : Aside0 (∀ W, W = w → Calls Tryd.prog 12 #[.int .u64 x] W fun e w' => e = .returned (.int .i64 (Lib.ctz 64 x)) ∧ w' = W) := ⟨fun W hW => by subst hW; exact tz x (by omega) W hT⟩
  obtain ⟨z, hz⟩ : ∃ z : Int, z = (Lib.ctz 64 x : Int) := ⟨_, rfl⟩
  rw [← hz] at HTZ
  have hz0 : (z != 0) = true := by rw [bne_iff_ne]; omega
  clear hT he hx hc hz
  go_enter Tryd.func7, Tryd.ntmps7
  go_wp2_with (first | simp only [hx1] | (go_at_call 12; refine (HTZ.out _ rfl).mono ?_; rintro e w' ⟨rfl, hw⟩; rw [hw]; clear hw))
  go_ret2
  exact ⟨rfl, by repeat (first | exact Drawn0.refl _ | apply Drawn0.step)⟩
set_option maxHeartbeats 4000000 in
set_option maxRecDepth 100000 in
theorem impl_odd (a : Int) (k : Nat) (r : Int) (w : World) (hT : TabAt 0 Lib.deBruijn64tab w) (ho : a % 2 = 1) (h : loop a k a = some r) :
    Calls Tryd.prog 7 #[.int .i64 a] w fun e w' => e = .returned (.tuple #[.int .i64 r, .bool true]) ∧ Drawn0 w w' := by
  obtain ⟨x, hx⟩ : ∃ x : Nat, x = (a % 18446744073709551616).toNat := ⟨_, rfl⟩
  have hx1 : IntKind.u64.wrap a = (x : Int) := by rw [IntKind.wrap_u64]; omega
  have hc := ctz_odd x (by omega)
  have HTZ : Aside0 (∀ W, W = w → Calls Tryd.prog 12 #[.int .u64 x] W fun e w' => e = .returned (.int .i64 0) ∧ w' = W) := ⟨fun W hW => by subst hW; have := tz x (by omega) W hT; rwa [hc] at this⟩
  have H' := Aside0.mk h
  clear hT ho hx hc h
  go_enter Tryd.func7, Tryd.ntmps7
  go_wp2_with (first | simp only [hx1] | (go_at_call 12; refine (HTZ.out _ rfl).mono ?_; rintro e w' ⟨rfl, hw⟩; rw [hw]; clear hw))
  go_loopg [4] k (fun kq v4 w' => ∃ (x4 : Int), v4 = .int .i64 x4 ∧ Aside0 (loop a kq x4 = some r) ∧ Aside0 (kq ≤ k) ∧ Drawn0 w w')
  case atStart => exact ⟨a, rfl, H', ⟨Nat.le_refl _⟩, by repeat (first | exact Drawn0.refl _ | apply Drawn0.step)⟩
  case round =>
    clear H'
    obtain ⟨x4, rfl, HA, HK1, ⟨m1, rfl⟩⟩ := hrel
    cases gk with
    | zero => exact absurd HA.out (by simp [loop])
    | succ k1 =>
      have H := HA.out
      clear HA
      simp only [loop] at H
      by_cases c : wrap64 (x4 * a) = 1
      · rw [if_pos c] at H
        have c0 : (wrap64 (x4 * a) != 1) = false := bne_eq_false_iff_eq.mpr c
        clear c
        obtain rfl := Option.some.inj H
        go_wp2
        go_ret2
        exact ⟨rfl, by repeat (first | exact Drawn0.refl _ | apply Drawn0.step)⟩
      · rw [if_neg c] at H
        have c0 : (wrap64 (x4 * a) != 1) = true := bne_iff_ne.mpr c
        clear c
        have H' := Aside0.mk H
        clear H
        go_wp2
        go_roundg k1
        case measure => have := HK1.out; omega
        case rel => exact ⟨_, rfl, H', ⟨by have := HK1.out; omega⟩, by repeat (first | exact Drawn0.refl _ | apply Drawn0.step)⟩
set_option maxHeartbeats 4000000 in
set_option maxRecDepth 100000 in
theorem law_calls (a r : Int) (b : Bool) (k : Nat) (w : World) (hs : spec_OddInverse.f k a = some (r, b))
    (hi : ∀ W, Drawn0 w W → Calls Tryd.prog 7 #[.int .i64 a] W fun e w' => e = .returned (.tuple #[.int .i64 r, .bool b]) ∧ Drawn0 W w') :
    Calls Tryd.prog 3 #[.int .i64 a] w fun e w' => e = .returned (.bool true) ∧ Drawn0 w w' := by
  have HS : Aside0 (∀ W, Calls Tryd.prog 6 #[.int .i64 a] W fun e w' => e = .returned (.tuple #[.int .i64 r, .bool b]) ∧ Drawn0 W w') := ⟨fun W => spec_OddInverse.calls k a r b W hs⟩
  have HI := Aside0.mk hi
  clear hs hi
  go_enter Tryd.func3, Tryd.ntmps3
  go_wp2_with (first | (go_at_call 6; refine (HS.out _).mono ?_; rintro e w' ⟨rfl, ⟨q, rfl⟩⟩) | (go_at_call 7; refine (HI.out _ (by repeat (first | exact Drawn0.refl _ | apply Drawn0.step))).mono ?_; rintro e w' ⟨rfl, ⟨q', rfl⟩⟩))
  go_ret
  exact ⟨rfl, by repeat (first | exact Drawn0.refl _ | apply Drawn0.step)⟩
end Go.Proofs.YtgklegikmkepgaaDoor.Odd
