/- The program's way to the inverse (Newton's steps) and the reference's (bit by bit) lead to the one number; for every int64. -/
import Derived.Test.YtgklegikmkepgaaDoorOdd
set_option linter.unusedVariables false
set_option linter.unusedSimpArgs false
namespace Go.Proofs.YtgklegikmkepgaaDoor.Odd
open Go Go.RowKit Go.Proofs.YtgklegikmkepgaaDoor.PFnExactOddInverse Go.Proofs.YtgklegikmkepgaaDoorW.PrintWords Go.Proofs.YtgklegikmkepgaaDoorW.PrintLast Go.Proofs.YtgklegikmkepgaaDoorW.PrintMore
theorem wrap_eq (x : Int) : ∃ q, wrap64 x = x + 18446744073709551616 * q := ⟨(wrap64 x - x) / 18446744073709551616, by unfold wrap64; omega⟩
theorem wrap_lo (x : Int) : -9223372036854775808 ≤ wrap64 x := by unfold wrap64; omega
theorem wrap_hi (x : Int) : wrap64 x ≤ 9223372036854775807 := by unfold wrap64; omega
theorem and1 (x : Int) : Go.bits .and .i64 x 1 = x % 2 := by
  show IntKind.i64.wrap ((BitVec.ofInt 64 x &&& BitVec.ofInt 64 1).toNat : Int) = x % 2
  rw [BitVec.toNat_and, show (BitVec.ofInt 64 1).toNat = 1 from rfl, Nat.and_one_is_mod, BitVec.toNat_ofInt, i64_w]
  unfold wrap64
  omega
/-- A number is an inverse, and an int64. -/
def Inv (a x : Int) : Prop := (∃ q, 1 - x * a = 18446744073709551616 * q) ∧ -9223372036854775808 ≤ x ∧ x ≤ 9223372036854775807
theorem inv_unique {a x y : Int} (hx : Inv a x) (hy : Inv a y) : x = y := by
  obtain ⟨⟨q, h1⟩, b1, b2⟩ := hx
  obtain ⟨⟨r, h2⟩, c1, c2⟩ := hy
  have h : x - y = 18446744073709551616 * (x * r - y * q) := by grind
  generalize x * r - y * q = z at h
  omega
theorem newton (a x s q t u v q1 q2 q3 : Int) (hs : 1 - x * a = s * q) (ht : s * s = t * u) (hM : 18446744073709551616 = t * v) : 1 - (x * ((2 - (x * a + 18446744073709551616 * q1)) + 18446744073709551616 * q2) + 18446744073709551616 * q3) * a = t * (u * q * q + v * (x * q1 * a - x * q2 * a - q3 * a)) := by grind
theorem loop_hit (a x : Int) (k : Nat) (hx : Inv a x) : ∃ r, loop a (k + 1) x = some r ∧ Inv a r := by
  obtain ⟨⟨q, h⟩, b1, b2⟩ := hx
  refine ⟨x, ?_, ⟨q, h⟩, b1, b2⟩
  simp only [loop]
  rw [if_pos]
  generalize x * a = p at h
  unfold wrap64
  omega
theorem loop_step (a x s t u v : Int) (k : Nat) (hs : ∃ q, 1 - x * a = s * q) (ht : s * s = t * u) (hM : 18446744073709551616 = t * v) (b1 : -9223372036854775808 ≤ x) (b2 : x ≤ 9223372036854775807)
    (rest : ∀ y, -9223372036854775808 ≤ y → y ≤ 9223372036854775807 → (∃ q, 1 - y * a = t * q) → ∃ r, loop a k y = some r ∧ Inv a r) : ∃ r, loop a (k + 1) x = some r ∧ Inv a r := by
  simp only [loop]
  by_cases c : wrap64 (x * a) = 1
  · rw [if_pos c]
    obtain ⟨q0, h0⟩ := wrap_eq (x * a)
    exact ⟨x, rfl, ⟨q0, by omega⟩, b1, b2⟩
  · rw [if_neg c]
    obtain ⟨q, hq⟩ := hs
    obtain ⟨q1, h1⟩ := wrap_eq (x * a)
    obtain ⟨q2, h2⟩ := wrap_eq (2 - wrap64 (x * a))
    obtain ⟨q3, h3⟩ := wrap_eq (x * wrap64 (2 - wrap64 (x * a)))
    refine rest _ (wrap_lo _) (wrap_hi _) ⟨u * q * q + v * (x * q1 * a - x * q2 * a - q3 * a), ?_⟩
    rw [h3, h2, h1]
    exact newton a x s q t u v q1 q2 q3 hq ht hM
theorem loop_odd (a : Int) (ho : a % 2 = 1) (b1 : -9223372036854775808 ≤ a) (b2 : a ≤ 9223372036854775807) (k : Nat) : ∃ r, loop a (k + 6) a = some r ∧ Inv a r := by
  refine loop_step a a 8 64 1 288230376151711744 (k + 5) ?_ (by decide) (by decide) b1 b2 fun x c1 c2 hx => ?_
  · obtain ⟨b, hb⟩ : ∃ b, a = 2 * b + 1 := ⟨a / 2, by omega⟩
    rcases (by omega : b % 2 = 0 ∨ b % 2 = 1) with h | h
    · obtain ⟨c, hc⟩ : ∃ c, b = 2 * c := ⟨b / 2, by omega⟩
      exact ⟨-(c * (2 * c + 1)), by grind⟩
    · obtain ⟨c, hc⟩ : ∃ c, b = 2 * c + 1 := ⟨b / 2, by omega⟩
      exact ⟨-((2 * c + 1) * (c + 1)), by grind⟩
  refine loop_step a x 64 4096 1 4503599627370496 (k + 4) hx (by decide) (by decide) c1 c2 fun x c1 c2 hx => ?_
  refine loop_step a x 4096 16777216 1 1099511627776 (k + 3) hx (by decide) (by decide) c1 c2 fun x c1 c2 hx => ?_
  refine loop_step a x 16777216 281474976710656 1 65536 (k + 2) hx (by decide) (by decide) c1 c2 fun x c1 c2 hx => ?_
  refine loop_step a x 281474976710656 18446744073709551616 4294967296 1 (k + 1) hx (by decide) (by decide) c1 c2 fun x c1 c2 hx => ?_
  exact loop_hit a x k ⟨hx, c1, c2⟩
theorem bit_step (a x P R q : Int) (hP : 2 ≤ P) (hPR : 18446744073709551616 = 2 * P * R) (ho : a % 2 = 1) (hq : 1 - x * a = P * q) :
    (wrap64 (a * x) / P % 2 = 0 → ∃ q', 1 - x * a = 2 * P * q') ∧ (wrap64 (a * x) / P % 2 ≠ 0 → ∀ z, (∃ e, z = P + 18446744073709551616 * e) → ∃ q', 1 - wrap64 (x + z) * a = 2 * P * q') := by
  obtain ⟨q0, h0⟩ := wrap_eq (a * x)
  have hm : wrap64 (a * x) = 1 + P * (2 * R * q0 - q) := by rw [h0]; grind
  have hd : wrap64 (a * x) / P = 2 * R * q0 - q := by
    rw [hm, Int.add_mul_ediv_left _ _ (by omega), Int.ediv_eq_zero_of_lt (by omega) (by omega), Int.zero_add]
  rw [hd]
  obtain ⟨m, hmm⟩ : ∃ m, 2 * R * q0 - q = m := ⟨_, rfl⟩
  rw [hmm]
  constructor
  · intro h
    obtain ⟨m', rfl⟩ : ∃ m', m = 2 * m' := ⟨m / 2, by omega⟩
    exact ⟨R * q0 - m', by grind⟩
  · intro h z hz
    obtain ⟨m', rfl⟩ : ∃ m', m = 2 * m' + 1 := ⟨m / 2, by omega⟩
    obtain ⟨a', rfl⟩ : ∃ a', a = 2 * a' + 1 := ⟨a / 2, by omega⟩
    obtain ⟨e, rfl⟩ := hz
    obtain ⟨q3, h3⟩ := wrap_eq (x + (P + 18446744073709551616 * e))
    rw [h3]
    exact ⟨R * q0 - m' - a' - 1 - R * (e + q3) * (2 * a' + 1), by grind⟩
theorem pow_split (i : Nat) (h : i < 64) : (18446744073709551616 : Int) = 2 * 2 ^ i * 2 ^ (63 - i) := by
  rw [Int.mul_assoc, ← Int.pow_add, show i + (63 - i) = 63 by omega]
  rfl
theorem two_le_pow (i : Nat) (h : 1 ≤ i) : (2 : Int) ≤ 2 ^ i := by
  obtain ⟨j, rfl⟩ : ∃ j, i = j + 1 := ⟨i - 1, by omega⟩
  have : (0 : Int) < 2 ^ j := Int.pow_pos (by decide)
  rw [Int.pow_succ]
  omega
theorem spec_run (a : Int) (ho : a % 2 = 1) (d : Nat) : ∀ (k i : Nat) (x : Int), i + d = 64 → 1 ≤ i → d < k → (∃ q, 1 - x * a = 2 ^ i * q) → -9223372036854775808 ≤ x → x ≤ 9223372036854775807 → ∃ r, spec_OddInverse.l0 k a x (i : Int) = some (r, true) ∧ Inv a r := by
  induction d with
  | zero =>
    intro k i x hi h1 hk hq b1 b2
    obtain ⟨k, rfl⟩ : ∃ m, k = m + 1 := ⟨k - 1, by omega⟩
    obtain rfl : i = 64 := by omega
    refine ⟨x, ?_, hq, b1, b2⟩
    simp only [spec_OddInverse.l0]
    rw [if_neg (by omega)]
  | succ d ih =>
    intro k i x hi h1 hk hq b1 b2
    obtain ⟨k, rfl⟩ : ∃ m, k = m + 1 := ⟨k - 1, by omega⟩
    have c1 : (i : Int) < 64 := by omega
    have c2 : ¬ (i : Int) = 0 := by omega
    have c3 : (0 : Int) ≤ (i : Int) := by omega
    have hi1 : wrap64 ((i : Int) + 1) = ((i + 1 : Nat) : Int) := by unfold wrap64; omega
    have hu : IntKind.u64.wrap (i : Int) = (i : Int) := by rw [IntKind.wrap_u64]; omega
    have hmin : min (i : Int).toNat 64 = i := by omega
    have e1 : i + 1 + d = 64 := by omega
    have e2 : 1 ≤ i + 1 := by omega
    have e3 : d < k := by omega
    have e4 : i < 64 := by omega
    obtain ⟨q, hq⟩ := hq
    obtain ⟨s0, s1⟩ := bit_step a x (2 ^ i) (2 ^ (63 - i)) q (two_le_pow i h1) (pow_split i e4) ho hq
    have hsr : shr .i64 (wrap64 (a * x)) (i : Int) = wrap64 (a * x) / 2 ^ i := by
      show wrap64 (a * x) / 2 ^ min (i : Int).toNat 64 = _
      rw [hmin]
    have hsl : ∃ e, shl .i64 1 (i : Int) = 2 ^ i + 18446744073709551616 * e := by
      obtain ⟨e, he⟩ := wrap_eq (1 * 2 ^ i)
      refine ⟨e, ?_⟩
      show IntKind.i64.wrap (1 * 2 ^ min (i : Int).toNat 64) = _
      rw [hmin, i64_w, he, Int.one_mul]
    have hp : (2 : Int) ^ (i + 1) = 2 * 2 ^ i := by rw [Int.pow_succ, Int.mul_comm]
    simp only [spec_OddInverse.l0]
    rw [if_pos c1, if_neg c2, hu, if_pos c3, hsr, and1, hi1]
    by_cases c : wrap64 (a * x) / 2 ^ i % 2 = 0
    · rw [if_pos c]
      exact ih k (i + 1) x e1 e2 e3 (by rw [hp]; exact s0 c) b1 b2
    · rw [if_neg c]
      exact ih k (i + 1) _ e1 e2 e3 (by rw [hp]; exact s1 c _ hsl) (wrap_lo _) (wrap_hi _)
theorem spec_first (a : Int) (ho : a % 2 = 1) (hw : wrap64 (a * 1) = a) (k : Nat) : spec_OddInverse.l0 (k + 1) a 1 0 = spec_OddInverse.l0 k a 1 1 := by
  have hu : IntKind.u64.wrap 0 = 0 := by rw [IntKind.wrap_u64]; decide
  have hsr : shr .i64 (wrap64 (a * 1)) 0 = a := by
    rw [hw]
    show a / 2 ^ min (0 : Int).toNat 64 = a
    rw [show min (0 : Int).toNat 64 = 0 by decide, Int.pow_zero, Int.ediv_one]
  have h1 : wrap64 (0 + 1) = 1 := by unfold wrap64; decide
  simp only [spec_OddInverse.l0]
  rw [if_pos (by decide), if_pos trivial, hu, if_pos (by decide), hsr, and1, if_pos ho, h1]
theorem agree (a : Int) (b1 : -9223372036854775808 ≤ a) (b2 : a ≤ 9223372036854775807) : (a % 2 = 0 ∧ spec_OddInverse.f 66 a = some (0, false)) ∨ (a % 2 = 1 ∧ ∃ r, spec_OddInverse.f 66 a = some (r, true) ∧ loop a 66 a = some r) := by
  unfold spec_OddInverse.f
  rw [and1]
  by_cases h : a % 2 = 0
  · rw [if_pos h]; exact .inl ⟨h, rfl⟩
  · rw [if_neg h]
    have ho : a % 2 = 1 := by omega
    refine .inr ⟨ho, ?_⟩
    obtain ⟨r, hr, hri⟩ := loop_odd a ho b1 b2 60
    have hw : wrap64 (a * 1) = a := by unfold wrap64; omega
    obtain ⟨s, hs, hsi⟩ := spec_run a ho 63 65 1 1 (by decide) (by decide) (by decide) ⟨-(a / 2), by omega⟩ (by decide) (by decide)
    obtain rfl := inv_unique hri hsi
    exact ⟨r, (spec_first a ho hw 65).trans hs, hr⟩
end Go.Proofs.YtgklegikmkepgaaDoor.Odd
