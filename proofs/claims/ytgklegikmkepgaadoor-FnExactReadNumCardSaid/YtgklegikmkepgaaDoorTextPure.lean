/- The reference's numeral and reading of a number are the library's: for every int64 and every string of at most 2^20 bytes. -/
import Derived.Test.YtgklegikmkepgaaDoorTextWalk
import Derived.Lib.ItoaLen
import Derived.Lib.Strings
set_option linter.unusedVariables false
set_option linter.unusedSimpArgs false
namespace Go.Proofs.YtgklegikmkepgaaDoor.Text
open Go Go.RowKit Go.Proofs.YtgklegikmkepgaaDoor.PFnExactReadNum Go.Proofs.YtgklegikmkepgaaDoorW.PrintWords Go.Proofs.YtgklegikmkepgaaDoorW.PrintLast Go.Proofs.YtgklegikmkepgaaDoorW.PrintMore
theorem dd_small {u : Nat} (h : u < 10) : Lib.decDigits u = [UInt8.ofNat (48 + u)] := by rw [Lib.decDigits, dif_pos h]
theorem dd_big {u : Nat} (h : ¬ u < 10) : Lib.decDigits u = Lib.decDigits (u / 10) ++ [UInt8.ofNat (48 + u % 10)] := by rw [Lib.decDigits, dif_neg h]
theorem one_byte (x : Int) (n : Nat) (h : x = (n : Int)) : strOfNums [x] = ⟨#[UInt8.ofNat n]⟩ := by subst h; rfl
theorem long_f (k : Nat) : ∀ (u : Nat), u < 10 ^ (k + 1) → u < 18446744073709551616 → k ≤ 30 → spec_l1Long.f (k + 1) (u : Int) = some ⟨(Lib.decDigits u).toArray⟩ ∧ (Lib.decDigits u).length ≤ k + 1 := by
  induction k with
  | zero =>
    intro u hu hM _
    have hu' : u < 10 := by simpa using hu
    refine ⟨?_, by rw [dd_small hu']; simp⟩
    simp only [spec_l1Long.f]
    rw [if_pos (by omega), dd_small hu', one_byte _ (48 + u) (by rw [IntKind.wrap_u64]; omega)]
  | succ k ih =>
    intro u hu hM hk
    by_cases h : u < 10
    · refine ⟨?_, by rw [dd_small h]; simp⟩
      simp only [spec_l1Long.f]
      rw [if_pos (by omega), dd_small h, one_byte _ (48 + u) (by rw [IntKind.wrap_u64]; omega)]
    · have hu2 : u / 10 < 10 ^ (k + 1) := by rw [Nat.pow_succ] at hu; omega
      obtain ⟨i1, i2⟩ := ih (u / 10) hu2 (by omega) (by omega)
      have e1 : IntKind.u64.wrap (Int.tdiv (u : Int) 10) = ((u / 10 : Nat) : Int) := by rw [Int.tdiv_eq_ediv_of_nonneg (by omega), IntKind.wrap_u64]; omega
      have e2 : IntKind.u64.wrap (48 + Int.tmod (u : Int) 10) % 256 = ((48 + u % 10 : Nat) : Int) := by rw [Int.tmod_eq_emod_of_nonneg (by omega), IntKind.wrap_u64]; omega
      refine ⟨?_, by rw [dd_big h, List.length_append, List.length_singleton]; omega⟩
      rw [spec_l1Long.f, if_neg (by omega), e1, i1, Option.bind_some, Option.bind_some, e2, one_byte _ (48 + u % 10) rfl, if_pos, dd_big h]
      · congr 1
      · show (Lib.decDigits (u / 10)).toArray.size + 1 ≤ _
        rw [List.size_toArray]
        omega
theorem long_20 (u : Nat) (h : u < 18446744073709551616) : spec_l1Long.f 20 (u : Int) = some ⟨(Lib.decDigits u).toArray⟩ ∧ (Lib.decDigits u).length ≤ 20 := long_f 19 u (by omega) h (by omega)
theorem num_20 (n : Int) (h0 : -9223372036854775808 ≤ n) (h1 : n ≤ 9223372036854775807) : spec_NumText.f 20 n = some (num n) := by
  unfold spec_NumText.f num Lib.itoa
  by_cases h : n ≥ 0
  · have e : IntKind.u64.wrap n = ((n.toNat : Nat) : Int) := by rw [IntKind.wrap_u64]; omega
    rw [if_pos h, if_neg (by omega), e, (long_20 n.toNat (by omega)).1]
    rfl
  · have e : IntKind.u64.wrap (IntKind.u64.wrap (wrap64 (-(wrap64 (n + 1)))) + 1) = ((n.natAbs : Nat) : Int) := by
      have e1 : wrap64 (n + 1) = n + 1 := by unfold wrap64; omega
      rw [e1]
      have e2 : wrap64 (-(n + 1)) = -(n + 1) := by unfold wrap64; omega
      rw [e2, IntKind.wrap_u64, IntKind.wrap_u64]
      omega
    obtain ⟨l1, l2⟩ := long_20 n.natAbs (by omega)
    rw [if_neg h, if_pos (by omega), e, l1, Option.bind_some, if_pos]
    · congr 1
    · show 1 + (Lib.decDigits n.natAbs).toArray.size ≤ _
      rw [List.size_toArray]
      omega
/-! ### Reading -/
theorem dd_digit (u : Nat) : ∀ c ∈ Lib.decDigits u, 48 ≤ c.toNat ∧ c.toNat ≤ 57 := by
  induction u using Nat.strongRecOn with
  | _ u ih =>
    intro c hc
    by_cases h : u < 10
    · rw [dd_small h, List.mem_singleton] at hc
      subst hc
      rw [UInt8.toNat_ofNat_of_lt' (by show 48 + u < 256; omega)]
      omega
    · rw [dd_big h, List.mem_append, List.mem_singleton] at hc
      rcases hc with hc | hc
      · exact ih (u / 10) (by omega) c hc
      · subst hc
        rw [UInt8.toNat_ofNat_of_lt' (by show 48 + u % 10 < 256; omega)]
        omega
theorem digit_nat (d : Nat) (h : d < 10) : (UInt8.ofNat (48 + d)).toNat = 48 + d := UInt8.toNat_ofNat_of_lt' (by show 48 + d < 256; omega)
theorem parse_dd (M : Nat) (hM : M < 18446744073709551616) (u : Nat) : ∀ post, u ≤ M → Lib.parseUintM M 0 (Lib.decDigits u ++ post) = Lib.parseUintM M u post := by
  induction u using Nat.strongRecOn with
  | _ u ih =>
    intro post hu
    by_cases h : u < 10
    · rw [dd_small h, List.singleton_append, Lib.parseUintM, digit_nat u h, if_pos (by omega), if_neg (by omega), if_neg (by omega)]
      congr 1
      omega
    · rw [dd_big h, List.append_assoc, ih (u / 10) (by omega) _ (by omega), List.singleton_append, Lib.parseUintM, digit_nat _ (by omega), if_pos (by omega), if_neg (by omega), if_neg (by omega)]
      congr 1
      omega
theorem dd_cons (u : Nat) : ∃ c r, Lib.decDigits u = c :: r ∧ 48 ≤ c.toNat ∧ c.toNat ≤ 57 := by
  cases h : Lib.decDigits u with
  | nil =>
    exfalso
    by_cases hu : u < 10
    · rw [dd_small hu] at h; exact absurd h (by simp)
    · rw [dd_big hu] at h; exact absurd h (by simp)
  | cons c r => exact ⟨c, r, rfl, dd_digit u c (by rw [h]; exact List.mem_cons_self ..)⟩
theorem uint_dd (u : Nat) (h : u < 18446744073709551616) : Lib.parseUintB 64 (Lib.decDigits u) = .ok u := by
  obtain ⟨c, r, e, -, -⟩ := dd_cons u
  unfold Lib.parseUintB
  rw [if_neg (by rw [e]; simp)]
  have := parse_dd (2 ^ 64 - 1) (by decide) u [] (by omega)
  rw [List.append_nil] at this
  rw [this, Lib.parseUintM]
theorem parse_itoa (v : Int) (h0 : -9223372036854775808 ≤ v) (h1 : v ≤ 9223372036854775807) : Lib.parseIntB 64 (Lib.itoa v) = .ok v := by
  unfold Lib.itoa
  by_cases h : v < 0
  · rw [if_pos h]
    unfold Lib.parseIntB
    simp only
    rw [if_pos (by right; decide), uint_dd _ (by omega)]
    simp only
    rw [if_neg (by intro h; exact h.1 (by decide)), if_neg (by intro h; have := h.2; omega), if_pos (by decide)]
    congr 1
    omega
  · rw [if_neg h]
    obtain ⟨c, r, e, b1, b2⟩ := dd_cons v.toNat
    have hu := uint_dd v.toNat (by omega)
    rw [e] at hu ⊢
    unfold Lib.parseIntB
    simp only
    rw [if_neg (by omega), hu]
    simp only
    rw [if_neg (by intro h; have := h.2; omega), if_neg (by intro h; have := h.1; omega), if_neg (by omega)]
    congr 1
    omega
theorem bt_list (s : ByteArray) (i : Nat) (h : i < s.data.toList.length) : bt s (i : Int) = ((s.data.toList[i]).toNat : Int) := by
  have h' : i < s.size := by rw [Array.length_toList] at h; exact h
  unfold bt
  rw [dif_pos (by simpa using h')]
  rfl
theorem size_list (s : ByteArray) : s.size = s.data.toList.length := by rw [Array.length_toList]; rfl
/-- One digit is read. -/
theorem read_digit (s : ByteArray) (hs : s.size ≤ 1048576) (i : Nat) (d : Nat) (hd : d < 10) (hi : s.data.toList[i]? = some (UInt8.ofNat (48 + d))) (x : Int) (k : Nat) :
    spec_ReadNum.l0 (k + 2) s x (i : Int) = spec_ReadNum.l0 k s (wrap64 (wrap64 (10 * x) - d)) ((i + 1 : Nat) : Int) := by
  obtain ⟨hl, e⟩ := List.getElem?_eq_some_iff.1 hi
  have hb : bt s (i : Int) = ((48 + d : Nat) : Int) := by rw [bt_list s i hl, e, digit_nat d hd]
  have hsz := size_list s
  have h1 : wrap64 ((i : Int) + 1) = ((i + 1 : Nat) : Int) := by unfold wrap64; omega
  rw [show k + 2 = (k + 1) + 1 from rfl, spec_ReadNum.l0, if_pos (by omega), if_pos (by omega), hb, if_neg (by omega), spec_ReadNum.j1, if_neg (by simp), if_pos (by omega), if_pos (by omega), hb, if_neg (by omega), if_neg (by omega), h1]
  congr 2
  omega
theorem read_dd (s : ByteArray) (hs : s.size ≤ 1048576) (u : Nat) : ∀ (pre post : List UInt8) (k : Nat), s.data.toList = pre ++ Lib.decDigits u ++ post → u ≤ 9223372036854775808 →
    spec_ReadNum.l0 (k + 2 * (Lib.decDigits u).length) s 0 (pre.length : Int) = spec_ReadNum.l0 k s (-(u : Int)) ((pre.length + (Lib.decDigits u).length : Nat) : Int) := by
  induction u using Nat.strongRecOn with
  | _ u ih =>
    intro pre post k hL hu
    by_cases h : u < 10
    · rw [dd_small h] at hL ⊢
      rw [List.length_singleton, show k + 2 * 1 = k + 2 from rfl, read_digit s hs pre.length u h (by rw [hL]; simp)]
      congr 1
      unfold wrap64
      omega
    · have hL' : s.data.toList = pre ++ Lib.decDigits (u / 10) ++ (UInt8.ofNat (48 + u % 10) :: post) := by rw [hL, dd_big h]; simp
      rw [dd_big h, List.length_append, List.length_singleton, show k + 2 * ((Lib.decDigits (u / 10)).length + 1) = (k + 2) + 2 * (Lib.decDigits (u / 10)).length by omega, ih (u / 10) (by omega) pre _ (k + 2) hL' (by omega),
        read_digit s hs (pre.length + (Lib.decDigits (u / 10)).length) (u % 10) (by omega) (by rw [hL', List.append_assoc, List.getElem?_append_right (by omega), Nat.add_sub_cancel_left, List.getElem?_append_right (Nat.le_refl _), Nat.sub_self]; rfl)]
      congr 1
      · have e1 : wrap64 (10 * (-((u / 10 : Nat) : Int))) = 10 * (-((u / 10 : Nat) : Int)) := by unfold wrap64; omega
        rw [e1]
        unfold wrap64
        omega
theorem read_end (s : ByteArray) (hs : s.size ≤ 1048576) (h0 : 0 < s.size) (x : Int) (k : Nat) (t : ByteArray) (c : Int) (hc : bt s 0 = c) (hk : spec_NumText.f k (if c = 45 then x else wrap64 (-x)) = some t) :
    spec_ReadNum.l0 (k + 1) s x (s.size : Int) = if t.toList = s.toList then some (if c = 45 then x else wrap64 (-x), true) else some (0, false) := by
  rw [spec_ReadNum.l0, if_neg (by omega), if_pos (by omega), hc]
  by_cases h : c = 45
  · rw [if_pos h] at hk ⊢
    rw [hk, Option.bind_some, if_pos h]
  · rw [if_neg h] at hk ⊢
    rw [hk, Option.bind_some, if_neg h]
theorem num_list (v : Int) : (num v).data.toList = Lib.itoa v := by unfold num; simp
theorem num_mono (j : Nat) (n : Int) (h0 : -9223372036854775808 ≤ n) (h1 : n ≤ 9223372036854775807) : spec_NumText.f (20 + j) n = some (num n) := by
  induction j with
  | zero => exact num_20 n h0 h1
  | succ j ih => exact spec_NumText.mono n (20 + j) _ ih
/-- The text of a number is read as this number. -/
theorem read_good (s : ByteArray) (v : Int) (h0 : -9223372036854775808 ≤ v) (h1 : v ≤ 9223372036854775807) (hL : s.data.toList = Lib.itoa v) (k : Nat) (hk : 100 ≤ k) : spec_ReadNum.l0 k s 0 0 = some (v, true) := by
  have hlen := Lib.itoa_length_le v h0 h1
  have hsz := size_list s
  rw [hL] at hsz
  have heq : (num v).toList = s.toList := by rw [ByteArray.toList_eq, ByteArray.toList_eq, num_list, hL]
  by_cases h : v < 0
  · have hi : Lib.itoa v = 45 :: Lib.decDigits v.natAbs := by unfold Lib.itoa; rw [if_pos h]
    rw [hi] at hL hsz hlen
    rw [List.length_cons] at hsz hlen
    have hb0 : bt s 0 = 45 := by have := bt_list s 0 (by rw [hL]; simp); simp only [hL, List.getElem_cons_zero] at this; exact this
    obtain ⟨j, rfl⟩ : ∃ j, k = ((20 + j + 1) + 2 * (Lib.decDigits v.natAbs).length) + 2 := ⟨k - 23 - 2 * (Lib.decDigits v.natAbs).length, by omega⟩
    rw [show ((20 + j + 1) + 2 * (Lib.decDigits v.natAbs).length) + 2 = (((20 + j + 1) + 2 * (Lib.decDigits v.natAbs).length) + 1) + 1 from rfl, spec_ReadNum.l0, if_pos (by omega), if_pos (by omega), hb0, if_pos rfl, spec_ReadNum.j1, if_pos (by decide)]
    have hr := read_dd s (by omega) v.natAbs [45] [] (20 + j + 1) (by rw [hL]; simp) (by omega)
    rw [List.length_singleton] at hr
    rw [show wrap64 (0 + 1) = ((1 : Nat) : Int) by unfold wrap64; decide, hr, show ((1 + (Lib.decDigits v.natAbs).length : Nat) : Int) = (s.size : Int) by omega, show (-((v.natAbs : Nat) : Int)) = v by omega]
    rw [read_end s (by omega) (by omega) v (20 + j) (num v) 45 hb0 (by rw [if_pos rfl]; exact num_mono j v h0 h1), if_pos heq, if_pos rfl]
  · have hi : Lib.itoa v = Lib.decDigits v.toNat := by unfold Lib.itoa; rw [if_neg h]
    rw [hi] at hL hsz hlen
    obtain ⟨c, r, e, b1, b2⟩ := dd_cons v.toNat
    have hpos : 1 ≤ (Lib.decDigits v.toNat).length := by rw [e]; simp
    obtain ⟨c0, hb0⟩ : ∃ c0, bt s 0 = c0 := ⟨_, rfl⟩
    have hc0 : ¬ c0 = 45 := by
      have := bt_list s 0 (by rw [hL]; omega)
      simp only [hL, e, List.getElem_cons_zero] at this
      rw [show ((0 : Nat) : Int) = 0 from rfl, hb0] at this
      omega
    obtain ⟨j, rfl⟩ : ∃ j, k = (20 + j + 1) + 2 * (Lib.decDigits v.toNat).length := ⟨k - 21 - 2 * (Lib.decDigits v.toNat).length, by omega⟩
    have hr := read_dd s (by omega) v.toNat [] [] (20 + j + 1) (by rw [hL]; simp) (by omega)
    rw [List.length_nil] at hr
    rw [show (0 : Int) = ((0 : Nat) : Int) from rfl]
    have hv : wrap64 (-(-((v.toNat : Nat) : Int))) = v := by unfold wrap64; omega
    refine hr.trans ?_
    rw [show ((0 + (Lib.decDigits v.toNat).length : Nat) : Int) = (s.size : Int) by omega]
    rw [read_end s (by omega) (by omega) _ (20 + j) (num v) c0 hb0 (by rw [if_neg hc0, hv]; exact num_mono j v h0 h1), if_pos heq, if_neg hc0, hv]
/-- Any other text is refused. -/
theorem read_bad (s : ByteArray) (hs : s.size ≤ 20) (h0 : 0 < s.size) (hb : ∀ v : Int, -9223372036854775808 ≤ v → v ≤ 9223372036854775807 → ¬ (num v).toList = s.toList) (d : Nat) : ∀ (i k : Nat) (x : Int), i + d = s.size → 2 * d + 30 ≤ k → -9223372036854775808 ≤ x → x ≤ 9223372036854775807 → spec_ReadNum.l0 k s x (i : Int) = some (0, false) := by
  induction d with
  | zero =>
    intro i k x hi hk x0 x1
    obtain ⟨j, rfl⟩ : ∃ j, k = 20 + j + 1 := ⟨k - 21, by omega⟩
    obtain ⟨c, hc⟩ : ∃ c, bt s 0 = c := ⟨_, rfl⟩
    have hw : -9223372036854775808 ≤ wrap64 (-x) ∧ wrap64 (-x) ≤ 9223372036854775807 := by unfold wrap64; omega
    have hy : -9223372036854775808 ≤ (if c = 45 then x else wrap64 (-x)) ∧ (if c = 45 then x else wrap64 (-x)) ≤ 9223372036854775807 := by
      split
      · exact ⟨x0, x1⟩
      · exact hw
    rw [show i = s.size by omega, read_end s (by omega) h0 x (20 + j) _ c hc (num_mono j _ hy.1 hy.2), if_neg (hb _ hy.1 hy.2)]
  | succ d ih =>
    intro i k x hi hk x0 x1
    obtain ⟨k, rfl⟩ : ∃ m, k = m + 1 + 1 := ⟨k - 2, by omega⟩
    have h1 : wrap64 ((i : Int) + 1) = ((i + 1 : Nat) : Int) := by unfold wrap64; omega
    have hnext : ∀ y, -9223372036854775808 ≤ y → y ≤ 9223372036854775807 → spec_ReadNum.l0 k s y (wrap64 ((i : Int) + 1)) = some (0, false) := fun y y0 y1 => by rw [h1]; exact ih (i + 1) k y (by omega) (by omega) y0 y1
    have hdig : spec_ReadNum.j1 (k + 1) s x (i : Int) false = some (0, false) := by
      rw [spec_ReadNum.j1, if_neg (by simp), if_pos (by omega), if_pos (by omega)]
      split
      · rfl
      · split
        · rfl
        · exact hnext _ (by unfold wrap64; omega) (by unfold wrap64; omega)
    rw [spec_ReadNum.l0, if_pos (by omega), if_pos (by omega)]
    split
    · cases hq : ((i : Int) == 0) with
      | true => rw [spec_ReadNum.j1, if_pos rfl]; exact hnext x x0 x1
      | false => exact hdig
    · exact hdig
theorem readR_good (s : ByteArray) (v : Int) (h0 : -9223372036854775808 ≤ v) (h1 : v ≤ 9223372036854775807) (hL : s.data.toList = Lib.itoa v) : readR s = (v, true) := by
  unfold readR
  rw [hL, parse_itoa v h0 h1]
  simp only
  rw [if_pos (by rw [ByteArray.toList_eq, ByteArray.toList_eq, num_list, hL])]
theorem readR_bad (s : ByteArray) (hb : ∀ v : Int, -9223372036854775808 ≤ v → v ≤ 9223372036854775807 → ¬ (num v).toList = s.toList) : readR s = (0, false) := by
  unfold readR
  cases hp : Lib.parseIntB 64 s.data.toList with
  | ok v =>
    have hbd := Lib.parseIntB_bounds hp
    simp only
    rw [if_neg (hb v (by have := hbd.1; omega) (by have := hbd.2; omega))]
  | «syntax» => rfl
  | range => rfl
theorem read_f (s : ByteArray) (hs : s.size ≤ 1048576) : spec_ReadNum.f 200 s = some (readR s) := by
  unfold spec_ReadNum.f spec_l1In.f
  by_cases hex : ∃ v : Int, -9223372036854775808 ≤ v ∧ v ≤ 9223372036854775807 ∧ s.data.toList = Lib.itoa v
  · obtain ⟨v, h0, h1, hL⟩ := hex
    have hsz := size_list s
    have hlen : 1 ≤ (Lib.itoa v).length ∧ (Lib.itoa v).length ≤ 20 := by
      unfold Lib.itoa
      split
      · have := (long_f 18 v.natAbs (by omega) (by omega) (by omega)).2
        rw [List.length_cons]
        omega
      · have := (long_f 18 v.toNat (by omega) (by omega) (by omega)).2
        obtain ⟨c, r, e, -, -⟩ := dd_cons v.toNat
        rw [e] at this ⊢
        rw [List.length_cons] at this ⊢
        omega
    rw [hL] at hsz
    rw [if_pos (by omega), Option.bind_some, decide_eq_true (by omega), if_pos rfl, readR_good s v h0 h1 hL]
    exact read_good s v h0 h1 hL 200 (by omega)
  · have hb : ∀ v : Int, -9223372036854775808 ≤ v → v ≤ 9223372036854775807 → ¬ (num v).toList = s.toList := fun v h0 h1 h => hex ⟨v, h0, h1, by rw [ByteArray.toList_eq, ByteArray.toList_eq, num_list] at h; exact h.symm⟩
    rw [readR_bad s hb]
    by_cases h1 : (s.size : Int) ≥ 1
    · rw [if_pos h1, Option.bind_some]
      by_cases h2 : (s.size : Int) ≤ 20
      · rw [decide_eq_true h2, if_pos rfl]
        exact read_bad s (by omega) (by omega) hb s.size 0 200 0 (by omega) (by omega) (by decide) (by decide)
      · rw [decide_eq_false h2]; rfl
    · rw [if_neg h1]; rfl
end Go.Proofs.YtgklegikmkepgaaDoor.Text
