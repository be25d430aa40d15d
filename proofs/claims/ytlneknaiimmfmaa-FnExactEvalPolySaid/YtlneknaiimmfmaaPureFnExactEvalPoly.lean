/- The program's EvalPoly and the reference's answer alike at every list of products and all numbers; no condition. -/
import Derived.Test.YtlneknaiimmfmaaPFnExactEvalPolyx6
import Derived.Test.YtlneknaiimmfmaaRdFnExactEvalPoly
set_option linter.unusedVariables false
set_option linter.unusedSimpArgs false
namespace Go.Proofs.Ytlneknaiimmfmaa.Pure
open Go.RowKit Go.Proofs.Ytlneknaiimmfmaa.PFnExactEvalPoly Go.Proofs.YtlneknaiimmfmaaW.PrintWords Go.Proofs.YtlneknaiimmfmaaW.PrintLast Go.Proofs.YtlneknaiimmfmaaW.PrintMore

theorem w64 (x : Int) (h0 : -9223372036854775808 ≤ x) (h1 : x ≤ 9223372036854775807) : wrap64 x = x := by unfold wrap64; omega
theorem w64s (i : Nat) (h : i ≤ 140737488355328) : wrap64 ((i : Int) + 1) = ((i + 1 : Nat) : Int) := by rw [w64 _ (by omega) (by omega)]; omega
theorem rd_nat (l : List Int) (i : Nat) : rd l (i : Int) = l.getD i 0 := by simp [rd]
theorem getD_lt (l : List Int) (i : Nat) (h : i < l.length) : l.getD i 0 = l[i] := by simp [List.getD_eq_getElem?_getD, h]

theorem laws_toIntS_run (x0 : List Int) (hn : x0.length ≤ 140737488351232) (d : Nat) : ∀ (k i : Nat) (x3 : List Int), i + d = x0.length → x3.length = x0.length → (∀ j, j < i → x3[j]? = x0[j]?) → d < k →
    laws_toIntS.l0 k x0 x3 (i : Int) = some x0 := by
  induction d with
  | zero =>
    intro k i x3 hi hl hj hk
    obtain ⟨k, rfl⟩ : ∃ m, k = m + 1 := ⟨k - 1, by omega⟩
    simp only [laws_toIntS.l0]
    rw [if_neg (by omega)]
    congr 1
    apply List.ext_getElem?
    intro j
    by_cases h : j < i
    · exact hj j h
    · rw [List.getElem?_eq_none (by omega), List.getElem?_eq_none (by omega)]
  | succ d ih =>
    intro k i x3 hi hl hj hk
    obtain ⟨k, rfl⟩ : ∃ m, k = m + 1 := ⟨k - 1, by omega⟩
    simp only [laws_toIntS.l0]
    rw [if_pos (by omega), if_pos (by omega), if_pos (by omega), w64s i (by omega)]
    refine ih k (i + 1) _ (by omega) (by simpa using hl) ?_ (by omega)
    intro j hji
    rw [Int.toNat_natCast, rd_nat, List.getElem?_set]
    by_cases h : i = j
    · subst h
      rw [if_pos rfl, if_pos (by omega), getD_lt _ _ (by omega), List.getElem?_eq_getElem (by omega)]
    · rw [if_neg h]
      exact hj j (by omega)
theorem laws_toIntS_f (l : List Int) (hn : l.length ≤ 1048576) (k : Nat) (hk : l.length < k) : laws_toIntS.f k l = some l := by
  unfold laws_toIntS.f
  rw [if_pos (by omega), if_pos (by omega)]
  exact laws_toIntS_run l (by omega) l.length k 0 _ (by omega) (by simp) (fun j hj => by omega) hk

theorem laws_eqIntS_run (x0 : List Int) (hn : x0.length ≤ 140737488351232) (d : Nat) : ∀ (k i : Nat), i + d = x0.length → d < k → laws_eqIntS.l0 k x0 x0 (i : Int) = some true := by
  induction d with
  | zero =>
    intro k i hi hk
    obtain ⟨k, rfl⟩ : ∃ m, k = m + 1 := ⟨k - 1, by omega⟩
    simp only [laws_eqIntS.l0]
    rw [if_neg (by omega)]
  | succ d ih =>
    intro k i hi hk
    obtain ⟨k, rfl⟩ : ∃ m, k = m + 1 := ⟨k - 1, by omega⟩
    simp only [laws_eqIntS.l0]
    rw [if_pos (by omega), if_pos (by omega), if_pos (by omega), if_pos trivial, w64s i (by omega)]
    exact ih k (i + 1) (by omega) (by omega)
theorem laws_eqIntS_f (l : List Int) (hn : l.length ≤ 140737488351232) (k : Nat) (hk : l.length < k) : laws_eqIntS.f k l l = some true := by
  unfold laws_eqIntS.f
  rw [if_pos rfl]
  exact laws_eqIntS_run l hn l.length k 0 (by omega) hk

theorem laws_toInt64S_run (x0 : List Int) (hn : x0.length ≤ 140737488351232) (d : Nat) : ∀ (k i : Nat) (x3 : List Int), i + d = x0.length → x3.length = x0.length → (∀ j, j < i → x3[j]? = x0[j]?) → d < k →
    laws_toInt64S.l0 k x0 x3 (i : Int) = some x0 := by
  induction d with
  | zero =>
    intro k i x3 hi hl hj hk
    obtain ⟨k, rfl⟩ : ∃ m, k = m + 1 := ⟨k - 1, by omega⟩
    simp only [laws_toInt64S.l0]
    rw [if_neg (by omega)]
    congr 1
    apply List.ext_getElem?
    intro j
    by_cases h : j < i
    · exact hj j h
    · rw [List.getElem?_eq_none (by omega), List.getElem?_eq_none (by omega)]
  | succ d ih =>
    intro k i x3 hi hl hj hk
    obtain ⟨k, rfl⟩ : ∃ m, k = m + 1 := ⟨k - 1, by omega⟩
    simp only [laws_toInt64S.l0]
    rw [if_pos (by omega), if_pos (by omega), if_pos (by omega), w64s i (by omega)]
    refine ih k (i + 1) _ (by omega) (by simpa using hl) ?_ (by omega)
    intro j hji
    rw [Int.toNat_natCast, rd_nat, List.getElem?_set]
    by_cases h : i = j
    · subst h
      rw [if_pos rfl, if_pos (by omega), getD_lt _ _ (by omega), List.getElem?_eq_getElem (by omega)]
    · rw [if_neg h]
      exact hj j (by omega)
theorem laws_toInt64S_f (l : List Int) (hn : l.length ≤ 1048576) (k : Nat) (hk : l.length < k) : laws_toInt64S.f k l = some l := by
  unfold laws_toInt64S.f
  rw [if_pos (by omega), if_pos (by omega)]
  exact laws_toInt64S_run l (by omega) l.length k 0 _ (by omega) (by simp) (fun j hj => by omega) hk

theorem laws_eqInt64S_run (x0 : List Int) (hn : x0.length ≤ 140737488351232) (d : Nat) : ∀ (k i : Nat), i + d = x0.length → d < k → laws_eqInt64S.l0 k x0 x0 (i : Int) = some true := by
  induction d with
  | zero =>
    intro k i hi hk
    obtain ⟨k, rfl⟩ : ∃ m, k = m + 1 := ⟨k - 1, by omega⟩
    simp only [laws_eqInt64S.l0]
    rw [if_neg (by omega)]
  | succ d ih =>
    intro k i hi hk
    obtain ⟨k, rfl⟩ : ∃ m, k = m + 1 := ⟨k - 1, by omega⟩
    simp only [laws_eqInt64S.l0]
    rw [if_pos (by omega), if_pos (by omega), if_pos (by omega), if_pos trivial, w64s i (by omega)]
    exact ih k (i + 1) (by omega) (by omega)
theorem laws_eqInt64S_f (l : List Int) (hn : l.length ≤ 140737488351232) (k : Nat) (hk : l.length < k) : laws_eqInt64S.f k l l = some true := by
  unfold laws_eqInt64S.f
  rw [if_pos rfl]
  exact laws_eqInt64S_run l hn l.length k 0 (by omega) hk

def cvM (x : S100) : S101 := ⟨x.f0, x.f1⟩
theorem szI_f (l : List Int) (m : Int) (hm0 : 0 ≤ m) (hm : m ≤ 1048576) (hl : l.length ≤ 9223372036854775807) : laws_szIntS.f l m = some (if m - (l.length : Int) < 0 then -1 else m - (l.length : Int)) := by
  unfold laws_szIntS.f
  have e : wrap64 (m - (l.length : Int)) = m - (l.length : Int) := by unfold wrap64; omega
  rw [e]
  split <;> rfl
theorem rdM_nat (l : List S100) (i : Nat) (h : i < l.length) : rd_T100 l (i : Int) = l[i] := by unfold rd_T100; rw [Int.toNat_natCast, List.getD_eq_getElem?_getD, List.getElem?_eq_getElem h]; rfl
theorem rdI_nat (l : List S101) (i : Nat) (h : i < l.length) : rd_T101 l (i : Int) = l[i] := by unfold rd_T101; rw [Int.toNat_natCast, List.getD_eq_getElem?_getD, List.getElem?_eq_getElem h]; rfl
theorem szM_run (x0 : List S100) (hn : x0.length ≤ 1048576) (hin : ∀ x ∈ x0, x.f0.length ≤ 9223372036854775807) (d : Nat) : ∀ (k i : Nat) (m : Int), i + d = x0.length → d < k → 0 ≤ m → m ≤ 1048576 →
    ∃ t, laws_szMonoS.l0 k x0 m (i : Int) = some t ∧ (t < 0 ∨ (0 ≤ t ∧ t ≤ 1048576 ∧ ∀ j, i ≤ j → (h : j < x0.length) → x0[j].f0.length ≤ 1048576)) := by
  induction d with
  | zero =>
    intro k i m hi hk h0 h1
    obtain ⟨k, rfl⟩ : ∃ j, k = j + 1 := ⟨k - 1, by omega⟩
    simp only [laws_szMonoS.l0]
    rw [if_neg (by omega)]
    exact ⟨_, rfl, .inr ⟨h0, h1, fun j hj h => by omega⟩⟩
  | succ d ih =>
    intro k i m hi hk h0 h1
    obtain ⟨k, rfl⟩ : ∃ j, k = j + 1 := ⟨k - 1, by omega⟩
    have hil : i < x0.length := by omega
    have hx := hin _ (List.getElem_mem hil)
    simp only [laws_szMonoS.l0]
    rw [if_pos (by omega), if_pos (by omega), rdM_nat _ i hil]
    unfold laws_szMono.f
    rw [szI_f _ m h0 h1 hx, Option.bind_some]
    by_cases hneg : m - (x0[i].f0.length : Int) < 0
    · rw [if_pos hneg, if_pos (by omega), Option.bind_some, if_pos (by omega)]
      exact ⟨_, rfl, .inl (by omega)⟩
    · rw [if_neg hneg, if_neg (by omega), Option.bind_some, if_neg (by omega), w64s i (by omega)]
      obtain ⟨t, ht, hh⟩ := ih k (i + 1) (m - (x0[i].f0.length : Int)) (by omega) (by omega) (by omega) (by omega)
      refine ⟨t, ht, hh.imp id (fun h => ⟨h.1, h.2.1, fun j hj hjl => ?_⟩)⟩
      by_cases e : j = i
      · subst e; omega
      · exact h.2.2 j (by omega) hjl
theorem szM_f (l : List S100) (hl : l.length ≤ 9223372036854775807) (hin : ∀ x ∈ l, x.f0.length ≤ 9223372036854775807) (k : Nat) (hk : 1048576 < k) : ∃ t, laws_szMonoS.f k l 1048576 = some t ∧ (t < 0 ∨ (0 ≤ t ∧ t ≤ 1048576 ∧ l.length ≤ 1048576 ∧ ∀ x ∈ l, x.f0.length ≤ 1048576)) := by
  unfold laws_szMonoS.f
  have e : wrap64 (1048576 - (l.length : Int)) = 1048576 - (l.length : Int) := by unfold wrap64; omega
  rw [e]
  by_cases h : (1048576 : Int) - (l.length : Int) < 0
  · rw [if_pos h]; exact ⟨_, rfl, .inl (by omega)⟩
  · rw [if_neg h]
    obtain ⟨t, ht, hh⟩ := szM_run l (by omega) hin l.length k 0 (1048576 - (l.length : Int)) (by omega) (by omega) (by omega) (by omega)
    refine ⟨t, ht, hh.imp id (fun h => ⟨h.1, h.2.1, by omega, fun x hx => ?_⟩)⟩
    obtain ⟨j, hj, rfl⟩ := List.getElem_of_mem hx
    exact h.2.2 j (Nat.zero_le _) hj
theorem toM_run (x0 : List S100) (hn : x0.length ≤ 1048576) (hin : ∀ x ∈ x0, x.f0.length ≤ 1048576) (d : Nat) : ∀ (k i : Nat) (x3 : List S101), i + d = x0.length → x3.length = x0.length → (∀ j, j < i → x3[j]? = (x0.map cvM)[j]?) → d + 1048577 < k →
    laws_toMonoS.l0 k x0 x3 (i : Int) = some (x0.map cvM) := by
  induction d with
  | zero =>
    intro k i x3 hi hl hj hk
    obtain ⟨k, rfl⟩ : ∃ m, k = m + 1 := ⟨k - 1, by omega⟩
    simp only [laws_toMonoS.l0]
    rw [if_neg (by omega)]
    congr 1
    apply List.ext_getElem?
    intro j
    by_cases h : j < i
    · exact hj j h
    · rw [List.getElem?_eq_none (by omega), List.getElem?_eq_none (by rw [List.length_map]; omega)]
  | succ d ih =>
    intro k i x3 hi hl hj hk
    obtain ⟨k, rfl⟩ : ∃ m, k = m + 1 := ⟨k - 1, by omega⟩
    have hil : i < x0.length := by omega
    have hx := hin _ (List.getElem_mem hil)
    simp only [laws_toMonoS.l0]
    rw [if_pos (by omega), if_pos (by omega), rdM_nat _ i hil]
    unfold laws_toMono.f
    rw [laws_toIntS_f _ hx k (by omega), Option.bind_some, Option.bind_some, if_pos (by omega), w64s i (by omega)]
    refine ih k (i + 1) _ (by omega) (by simpa using hl) ?_ (by omega)
    intro j hji
    rw [Int.toNat_natCast, List.getElem?_set]
    by_cases h : i = j
    · subst h
      rw [if_pos rfl, if_pos (by omega), List.getElem?_map, List.getElem?_eq_getElem hil]
      rfl
    · rw [if_neg h]
      exact hj j (by omega)
theorem toM_f (l : List S100) (hn : l.length ≤ 1048576) (hin : ∀ x ∈ l, x.f0.length ≤ 1048576) (k : Nat) (hk : 2097160 < k) : laws_toMonoS.f k l = some (l.map cvM) := by
  unfold laws_toMonoS.f
  rw [if_pos (by omega), if_pos (by omega)]
  exact toM_run l hn hin l.length k 0 _ (by omega) (by simp) (fun j hj => by omega) (by omega)
theorem eqM_run (x0 : List S101) (hn : x0.length ≤ 1048576) (hin : ∀ x ∈ x0, x.f0.length ≤ 1048576) (d : Nat) : ∀ (k i : Nat), i + d = x0.length → d + 1048577 < k → laws_eqMonoS.l0 k x0 x0 (i : Int) = some true := by
  induction d with
  | zero =>
    intro k i hi hk
    obtain ⟨k, rfl⟩ : ∃ m, k = m + 1 := ⟨k - 1, by omega⟩
    simp only [laws_eqMonoS.l0]
    rw [if_neg (by omega)]
  | succ d ih =>
    intro k i hi hk
    obtain ⟨k, rfl⟩ : ∃ m, k = m + 1 := ⟨k - 1, by omega⟩
    have hil : i < x0.length := by omega
    have hx := hin _ (List.getElem_mem hil)
    simp only [laws_eqMonoS.l0]
    rw [if_pos (by omega), if_pos (by omega), if_pos (by omega), rdI_nat _ i hil]
    unfold laws_eqMono.f
    rw [laws_eqIntS_f _ (by omega) k (by omega), Option.bind_some, if_pos rfl, if_pos rfl, Option.bind_some, if_pos rfl, w64s i (by omega)]
    exact ih k (i + 1) (by omega) (by omega)
theorem eqM_f (l : List S101) (hn : l.length ≤ 1048576) (hin : ∀ x ∈ l, x.f0.length ≤ 1048576) (k : Nat) (hk : 2097160 < k) : laws_eqMonoS.f k l l = some true := by
  unfold laws_eqMonoS.f
  rw [if_pos rfl]
  exact eqM_run l hn hin l.length k 0 (by omega) (by omega)

/-- Two lists of powers in order. -/
def cmpL : List Int → List Int → Int
  | [], _ => 0
  | _, [] => 0
  | x :: xs, y :: ys => if x < y then -1 else if x > y then 1 else cmpL xs ys
theorem cmpL_neg : ∀ a b : List Int, a.length = b.length → cmpL b a = -cmpL a b := by
  intro a
  induction a with
  | nil => intro b h; cases b with | nil => rfl | cons => simp at h
  | cons x xs ih =>
    intro b h
    cases b with
    | nil => simp at h
    | cons y ys =>
      simp only [cmpL]
      by_cases h1 : x < y
      · have h2 : ¬ y < x := by omega
        simp [h1, h2]
      · by_cases h2 : y < x
        · simp [h1, h2]
        · simp [h1, h2, ih ys (by simpa using h)]
theorem drop_rd (l : List Int) (i : Nat) (h : i < l.length) : l.drop i = rd l (i : Int) :: l.drop (i + 1) := by
  rw [List.drop_eq_getElem_cons h]
  congr 1
  rw [rd_nat, getD_lt _ _ h]
theorem compare_run (a b : List Int) (hab : a.length = b.length) (hl : a.length ≤ 1048576) (d : Nat) : ∀ (k i : Nat), i + d = a.length → d < k → spec_l4Compare.l0 k a b (a.length : Int) (i : Int) = some (cmpL (a.drop i) (b.drop i)) := by
  induction d with
  | zero =>
    intro k i hi hk
    obtain ⟨k, rfl⟩ : ∃ m, k = m + 1 := ⟨k - 1, by omega⟩
    simp only [spec_l4Compare.l0]
    rw [if_neg (by omega), List.drop_of_length_le (by omega)]
    rfl
  | succ d ih =>
    intro k i hi hk
    obtain ⟨k, rfl⟩ : ∃ m, k = m + 1 := ⟨k - 1, by omega⟩
    simp only [spec_l4Compare.l0]
    rw [if_pos (by omega), if_pos (by omega), if_pos (by omega), if_pos (by omega), w64s i (by omega), ih k (i + 1) (by omega) (by omega), drop_rd a i (by omega), drop_rd b i (by omega)]
    simp only [cmpL]
    split
    · rfl
    · split <;> rfl
theorem compare_f (a b : List Int) (hab : a.length = b.length) (hl : a.length ≤ 1048576) (k : Nat) (hk : a.length < k) : spec_l4Compare.f k a b = some (cmpL a b) := by
  unfold spec_l4Compare.f
  have := compare_run a b hab hl a.length k 0 (by omega) hk
  rw [List.drop_zero, List.drop_zero] at this
  exact this
theorem cmpInt_f (a b : Int) : cmp_Compare_int.f a b = some (if a < b then -1 else if a > b then 1 else 0) := by
  unfold cmp_Compare_int.f cmp_isNaN_int.f
  rw [Option.bind_some, Option.bind_some, bne_self_eq_false, bne_self_eq_false, if_neg (by simp), if_neg (by simp)]
  split
  · rfl
  · split <;> rfl
theorem slicesCompare_run (a b : List Int) (hab : a.length = b.length) (hl : a.length ≤ 1048576) (d : Nat) : ∀ (k i : Nat), i + d = a.length → d < k → slices_Compare_int_int.l0 k a b a (a.length : Int) (i : Int) = some (cmpL (a.drop i) (b.drop i)) := by
  induction d with
  | zero =>
    intro k i hi hk
    obtain ⟨k, rfl⟩ : ∃ m, k = m + 1 := ⟨k - 1, by omega⟩
    simp only [slices_Compare_int_int.l0]
    rw [if_neg (by omega), if_neg (by omega), List.drop_of_length_le (by omega)]
    rfl
  | succ d ih =>
    intro k i hi hk
    obtain ⟨k, rfl⟩ : ∃ m, k = m + 1 := ⟨k - 1, by omega⟩
    simp only [slices_Compare_int_int.l0]
    rw [if_pos (by omega), if_pos (by omega), if_pos (by omega), if_neg (by omega), if_pos (by omega), cmpInt_f, Option.bind_some, w64s i (by omega), ih k (i + 1) (by omega) (by omega), drop_rd a i (by omega), drop_rd b i (by omega)]
    simp only [cmpL]
    by_cases h1 : rd a (i : Int) < rd b (i : Int)
    · rw [if_pos h1, if_neg (by omega), if_pos h1]
    · by_cases h2 : rd a (i : Int) > rd b (i : Int)
      · rw [if_neg h1, if_pos h2, if_neg (by omega), if_neg h1, if_pos h2]
      · rw [if_neg h1, if_neg h2, if_pos rfl, if_neg h1, if_neg h2]
theorem falling_f (a b : List Int) (x y : Int) (hab : a.length = b.length) (hl : a.length ≤ 1048576) (k : Nat) (hk : a.length < k) : impl_falling.f k a x b y = some (-cmpL a b) := by
  unfold impl_falling.f slices_Compare_int_int.f
  have := slicesCompare_run b a hab.symm (by omega) b.length k 0 (by omega) (by omega)
  rw [List.drop_zero, List.drop_zero] at this
  rw [show ((0 : Nat) : Int) = 0 from rfl] at this
  rw [this, Option.bind_some, cmpL_neg _ _ hab]
theorem all_run (l : List Int) (hl : l.length ≤ 1048576) (d : Nat) : ∀ (k i : Nat), i + d = l.length → d < k → spec_l1All.l0 k 0 9 l (l.length : Int) (i : Int) = some (!((l.drop i).any fun x => !decide (0 ≤ x ∧ x ≤ 9))) := by
  induction d with
  | zero =>
    intro k i hi hk
    obtain ⟨k, rfl⟩ : ∃ m, k = m + 1 := ⟨k - 1, by omega⟩
    simp only [spec_l1All.l0]
    rw [if_neg (by omega), List.drop_of_length_le (by omega)]
    rfl
  | succ d ih =>
    intro k i hi hk
    obtain ⟨k, rfl⟩ : ∃ m, k = m + 1 := ⟨k - 1, by omega⟩
    have e : spec_l1In.f (rd l (i : Int)) 0 9 = some (decide (0 ≤ rd l (i : Int) ∧ rd l (i : Int) ≤ 9)) := by
      unfold spec_l1In.f
      by_cases h : rd l (i : Int) ≥ 0
      · rw [if_pos h]; congr 1; rw [decide_eq_decide]; omega
      · rw [if_neg h, decide_eq_false (by omega)]
    simp only [spec_l1All.l0]
    rw [if_pos (by omega), if_pos (by omega), if_pos (by omega), e, Option.bind_some, w64s i (by omega), ih k (i + 1) (by omega) (by omega), drop_rd l i (by omega), List.any_cons]
    cases decide (0 ≤ rd l (i : Int) ∧ rd l (i : Int) ≤ 9) <;> simp
theorem powers_f (l : List Int) (k : Nat) (hk : 10 < k) : spec_l4Powers.f k l = some (powOK l) := by
  unfold spec_l4Powers.f powOK
  by_cases h : l.length = 4
  · have := all_run l (by omega) l.length k 0 (by omega) (by omega)
    rw [List.drop_zero] at this
    rw [if_pos (by omega), show spec_l1All.f k l 0 9 = spec_l1All.l0 k 0 9 l (l.length : Int) ((0 : Nat) : Int) from rfl, this, Option.bind_some, decide_eq_true h, Bool.true_and]
  · rw [if_neg (by omega), decide_eq_false h]; rfl
theorem powOK_len {l : List Int} (h : powOK l = true) : l.length = 4 := by
  unfold powOK at h
  rw [Bool.and_eq_true] at h
  exact of_decide_eq_true h.1
/-- The product at a place is good, and falls from the one before. -/
def okAt (l : List S101) (i : Nat) : Bool := powOK (l.getD i z101).f0 && (decide ((l.getD i z101).f1 ≠ 0) && (decide (i = 0) || decide (0 < cmpL (l.getD (i - 1) z101).f0 (l.getD i z101).f0)))
/-- The products from a place on are good. -/
def okFrom (l : List S101) : Nat → Nat → Bool
  | 0, _ => true
  | d + 1, i => okAt l i && okFrom l d (i + 1)
theorem rdI_getD (l : List S101) (i : Nat) : rd_T101 l (i : Int) = l.getD i z101 := by unfold rd_T101; rw [Int.toNat_natCast]
theorem specPoly_run (l : List S101) (hl : l.length ≤ 1048576) (d : Nat) : ∀ (k i : Nat), i + d = l.length → d + 20 < k → (0 < i → powOK (l.getD (i - 1) z101).f0 = true) → spec_GoodPoly.l0 k l l (l.length : Int) (i : Int) = some (okFrom l d i && decide ((l.length : Int) ≤ 40)) := by
  induction d with
  | zero =>
    intro k i hi hk hp
    obtain ⟨k, rfl⟩ : ∃ m, k = m + 1 := ⟨k - 1, by omega⟩
    simp only [spec_GoodPoly.l0, okFrom]
    rw [if_neg (by omega), Bool.true_and]
  | succ d ih =>
    intro k i hi hk hp
    obtain ⟨k, rfl⟩ : ∃ m, k = m + 1 := ⟨k - 1, by omega⟩
    simp only [spec_GoodPoly.l0, okFrom]
    rw [if_pos (by omega), if_pos (by omega), if_pos (by omega), rdI_getD, powers_f _ k (by omega), Option.bind_some, w64s i (by omega)]
    unfold okAt
    cases h1 : powOK (l.getD i z101).f0 with
    | false => rw [if_neg (by simp)]; rfl
    | true =>
      rw [if_pos rfl]
      by_cases h2 : (l.getD i z101).f1 = 0
      · rw [if_pos h2, decide_eq_false (by simpa using h2)]; rfl
      · have hi1 := ih k (i + 1) (by omega) (by omega) (fun _ => by rw [Nat.add_sub_cancel]; exact h1)
        rw [if_neg h2, decide_eq_true h2, hi1]
        by_cases h3 : i = 0
        · rw [if_neg (by omega), decide_eq_true h3]; rfl
        · have e : wrap64 ((i : Int) - 1) = ((i - 1 : Nat) : Int) := by unfold wrap64; omega
          have hl4 := powOK_len (hp (by omega))
          have hl5 := powOK_len h1
          rw [if_pos (by omega), e, if_pos (by omega), if_pos (by omega), rdI_getD, compare_f _ _ (by omega) (by omega) k (by omega), Option.bind_some, decide_eq_false h3]
          generalize cmpL (l.getD (i - 1) z101).f0 (l.getD i z101).f0 = c
          by_cases h4 : c ≤ 0
          · rw [if_pos h4, decide_eq_false (by omega : ¬ 0 < c)]; rfl
          · rw [if_neg h4, decide_eq_true (by omega : 0 < c)]; rfl
theorem implPoly_run (l : List S101) (hl : l.length ≤ 1048576) (d : Nat) : ∀ (k i : Nat), i + d = l.length → d + 20 < k → (0 < i → powOK (l.getD (i - 1) z101).f0 = true) → impl_GoodPoly.l0 k l l (l.length : Int) (i : Int) = some (okFrom l d i) := by
  induction d with
  | zero =>
    intro k i hi hk hp
    obtain ⟨k, rfl⟩ : ∃ m, k = m + 1 := ⟨k - 1, by omega⟩
    simp only [impl_GoodPoly.l0, okFrom]
    rw [if_neg (by omega)]
  | succ d ih =>
    intro k i hi hk hp
    obtain ⟨k, rfl⟩ : ∃ m, k = m + 1 := ⟨k - 1, by omega⟩
    simp only [impl_GoodPoly.l0, okFrom]
    rw [if_pos (by omega), if_pos (by omega), if_pos (by omega), rdI_getD, w64s i (by omega)]
    unfold okAt impl_monoOK.f
    rw [Option.bind_some]
    cases h1 : powOK (l.getD i z101).f0 with
    | false => rw [if_neg (by simp)]; rfl
    | true =>
      by_cases h2 : (l.getD i z101).f1 = 0
      · rw [decide_eq_false (by simpa using h2), if_neg (by simp)]; rfl
      · have hi1 := ih k (i + 1) (by omega) (by omega) (fun _ => by rw [Nat.add_sub_cancel]; exact h1)
        rw [decide_eq_true h2, if_pos (by rfl : (true && true) = true), hi1]
        by_cases h3 : i = 0
        · rw [if_neg (by omega), decide_eq_true h3]; rfl
        · have e : wrap64 ((i : Int) - 1) = ((i - 1 : Nat) : Int) := by unfold wrap64; omega
          have hl4 := powOK_len (hp (by omega))
          have hl5 := powOK_len h1
          rw [if_pos (by omega), e, if_pos (by omega), if_pos (by omega), rdI_getD, falling_f _ _ _ _ (by omega) (by omega) k (by omega), Option.bind_some, decide_eq_false h3]
          generalize cmpL (l.getD (i - 1) z101).f0 (l.getD i z101).f0 = c
          by_cases h4 : c ≤ 0
          · rw [if_pos (by omega), decide_eq_false (by omega : ¬ 0 < c)]; rfl
          · rw [if_neg (by omega), decide_eq_true (by omega : 0 < c)]; rfl
/-- A good sum of products. -/
def polyOK (l : List S101) : Bool := okFrom l l.length 0 && decide ((l.length : Int) ≤ 40)
theorem specPoly_f (l : List S101) (hl : l.length ≤ 1048576) (k : Nat) (hk : l.length + 20 < k) : spec_GoodPoly.f k l = some (polyOK l) :=
  specPoly_run l hl l.length k 0 (by omega) hk (fun h => absurd h (Nat.lt_irrefl 0))
theorem implPoly_f (l : List S101) (hl : l.length ≤ 1048576) (k : Nat) (hk : l.length + 20 < k) : impl_GoodPoly.f k l = some (polyOK l) := by
  unfold impl_GoodPoly.f polyOK
  by_cases h : (l.length : Int) > 40
  · rw [if_pos h, decide_eq_false (by omega), Bool.and_false]
  · rw [if_neg h, decide_eq_true (by omega), Bool.and_true]
    exact implPoly_run l hl l.length k 0 (by omega) hk (fun h => absurd h (Nat.lt_irrefl 0))

theorem okFrom_in (l : List S101) (d : Nat) : ∀ i, okFrom l d i = true → ∀ j, i ≤ j → j < i + d → powOK (l.getD j z101).f0 = true := by
  induction d with
  | zero => intro i _ j h1 h2; omega
  | succ d ih =>
    intro i h j h1 h2
    unfold okFrom at h
    rw [Bool.and_eq_true] at h
    by_cases e : j = i
    · subst e
      have := h.1
      unfold okAt at this
      rw [Bool.and_eq_true] at this
      exact this.1
    · exact ih (i + 1) h.2 j (by omega) (by omega)
theorem polyOK_in {l : List S101} (h : polyOK l = true) : l.length ≤ 40 ∧ ∀ i, i < l.length → powOK (l.getD i z101).f0 = true := by
  unfold polyOK at h
  rw [Bool.and_eq_true] at h
  have := of_decide_eq_true h.2
  exact ⟨by omega, fun i hi => okFrom_in l l.length 0 h.1 i (by omega) (by omega)⟩
theorem powOK_in {l : List Int} (h : powOK l = true) (j : Nat) (hj : j < 4) : 0 ≤ rd l (j : Int) ∧ rd l (j : Int) ≤ 9 := by
  have hl := powOK_len h
  unfold powOK at h
  rw [Bool.and_eq_true] at h
  have h2 : (l.any fun x => !decide (0 ≤ x ∧ x ≤ 9)) = false := by simpa using h.2
  rw [List.any_eq_false] at h2
  have := h2 (rd l (j : Int)) (by rw [rd_nat, getD_lt _ _ (by omega)]; exact List.getElem_mem _)
  have h3 : decide (0 ≤ rd l (j : Int) ∧ rd l (j : Int) ≤ 9) = true := by
    cases hb : decide (0 ≤ rd l (j : Int) ∧ rd l (j : Int) ≤ 9) with
    | true => rfl
    | false => rw [hb] at this; exact absurd rfl this
  exact of_decide_eq_true h3

/-- A number times itself so often, from a number on, wrapped. -/
def powR (a : Int) : Nat → Int → Int
  | 0, x => x
  | d + 1, x => powR a d (wrap64 (x * a))
theorem spec_l1Power_run (a : Int) (d : Nat) (hd : d ≤ 1000) : ∀ (k : Nat) (x : Int), d < k → spec_l1Power.l0 k a (d : Int) x = some (powR a d x) := by
  induction d with
  | zero =>
    intro k x hk
    obtain ⟨k, rfl⟩ : ∃ m, k = m + 1 := ⟨k - 1, by omega⟩
    simp only [spec_l1Power.l0]
    rw [if_neg (by omega)]; rfl
  | succ d ih =>
    intro k x hk
    obtain ⟨k, rfl⟩ : ∃ m, k = m + 1 := ⟨k - 1, by omega⟩
    simp only [spec_l1Power.l0]
    rw [if_pos (by omega), w64 _ (by omega) (by omega), show ((d + 1 : Nat) : Int) - 1 = (d : Int) by omega]
    exact ih (by omega) k _ (by omega)
theorem impl_power_run (a : Int) (n : Nat) (hn : n ≤ 1000) (d : Nat) : ∀ (k i : Nat) (x : Int), i + d = n → d < k → impl_power.l0 k a x (n : Int) (i : Int) = some (powR a d x) := by
  induction d with
  | zero =>
    intro k i x hi hk
    obtain ⟨k, rfl⟩ : ∃ m, k = m + 1 := ⟨k - 1, by omega⟩
    simp only [impl_power.l0]
    rw [if_neg (by omega)]; rfl
  | succ d ih =>
    intro k i x hi hk
    obtain ⟨k, rfl⟩ : ∃ m, k = m + 1 := ⟨k - 1, by omega⟩
    simp only [impl_power.l0]
    rw [if_pos (by omega), w64s i (by omega)]
    exact ih k (i + 1) _ (by omega) (by omega)
theorem spec_l1Power_f (a : Int) (n : Nat) (hn : n ≤ 1000) (k : Nat) (hk : n < k) : spec_l1Power.f k a (n : Int) = some (powR a n 1) := spec_l1Power_run a n hn k 1 hk
theorem impl_power_f (a : Int) (n : Nat) (hn : n ≤ 1000) (k : Nat) (hk : n < k) : impl_power.f k a (n : Int) = some (powR a n 1) := impl_power_run a n hn n k 0 1 (by omega) hk

/-- A product at numbers. -/
def prodFrom (env ps : List Int) : Nat → Nat → Int → Int
  | 0, _, x => x
  | d + 1, j, x => prodFrom env ps d (j + 1) (wrap64 (x * powR (rd env (j : Int)) (rd ps (j : Int)).toNat 1))
/-- A sum of products at numbers. -/
def sumFrom (env : List Int) (P : List S101) : Nat → Nat → Int → Int
  | 0, _, s => s
  | d + 1, i, s => sumFrom env P d (i + 1) (wrap64 (s + prodFrom env (P.getD i z101).f0 4 0 (P.getD i z101).f1))
def evalP (env : List Int) (P : List S101) : Int × Bool := if polyOK P = true ∧ env.length = 4 then (sumFrom env P P.length 0 0, true) else (0, false)
theorem evalP_inner_spec (env ps : List Int) (he : env.length = 4) (hp : powOK ps = true) (P : List S101) (n s : Int) (i : Nat) (hi : i ≤ 1048576) (m : Nat) (hm : 20 ≤ m) (R : Option (Int × Bool)) (d : Nat) : ∀ (k j : Nat) (x : Int), j + d = 4 → m + d < k → (∀ k', m ≤ k' → spec_EvalPoly.l0 k' env (wrap64 (s + prodFrom env ps d j x)) P n ((i + 1 : Nat) : Int) = R) →
    spec_EvalPoly.l1 k env s x P n (i : Int) ps (ps.length : Int) (j : Int) = R := by
  have hl := powOK_len hp
  induction d with
  | zero =>
    intro k j x hj hk hR
    obtain ⟨k, rfl⟩ : ∃ m, k = m + 1 := ⟨k - 1, by omega⟩
    simp only [spec_EvalPoly.l1]
    rw [if_neg (by omega), w64s i (by omega)]
    exact hR k (by omega)
  | succ d ih =>
    intro k j x hj hk hR
    obtain ⟨k, rfl⟩ : ∃ m, k = m + 1 := ⟨k - 1, by omega⟩
    obtain ⟨h0, h9⟩ := powOK_in hp j (by omega)
    have e := spec_l1Power_f (rd env (j : Int)) (rd ps (j : Int)).toNat (by omega) k (by omega)
    rw [Int.toNat_of_nonneg h0] at e
    simp only [spec_EvalPoly.l1]
    rw [if_pos (by omega), if_pos (by omega), if_pos (by omega), if_pos (by omega), e, Option.bind_some, w64s j (by omega)]
    exact ih k (j + 1) _ (by omega) (by omega) hR
theorem evalP_run_spec (env : List Int) (he : env.length = 4) (P : List S101) (hl : P.length ≤ 40) (hp : ∀ i, i < P.length → powOK (P.getD i z101).f0 = true) (d : Nat) : ∀ (k i : Nat) (s : Int), i + d = P.length → 10 * d + 30 < k →
    spec_EvalPoly.l0 k env s P (P.length : Int) (i : Int) = some (sumFrom env P d i s, true) := by
  induction d with
  | zero =>
    intro k i s hi hk
    obtain ⟨k, rfl⟩ : ∃ m, k = m + 1 := ⟨k - 1, by omega⟩
    simp only [spec_EvalPoly.l0]
    rw [if_neg (by omega)]; rfl
  | succ d ih =>
    intro k i s hi hk
    obtain ⟨k, rfl⟩ : ∃ m, k = m + 1 := ⟨k - 1, by omega⟩
    simp only [spec_EvalPoly.l0]
    rw [if_pos (by omega), if_pos (by omega), if_pos (by omega), rdI_getD]
    exact evalP_inner_spec env _ he (hp i (by omega)) P _ s i (by omega) (10 * d + 31) (by omega) _ 4 k 0 _ rfl (by omega) (fun k' hk' => ih k' (i + 1) _ (by omega) (by omega))
theorem evalP_spec (env : List Int) (P : List S101) (hP : P.length ≤ 1048576) (k : Nat) (hk : 2000000 ≤ k) : spec_EvalPoly.f k P env = some (evalP env P) := by
  obtain ⟨k, rfl⟩ : ∃ m, k = m + 1 := ⟨k - 1, by omega⟩
  unfold spec_EvalPoly.f evalP
  rw [specPoly_f P hP (k + 1) (by omega), Option.bind_some]
  have hbad : spec_EvalPoly.j0 (k + 1) P env true = some (0, false) := by simp [spec_EvalPoly.j0]
  by_cases h1 : polyOK P = true
  · rw [if_pos h1]
    by_cases h2 : env.length = 4
    · have hb : ((env.length : Int) != 4) = false := by rw [bne_eq_false_iff_eq]; omega
      obtain ⟨hl, hp⟩ := polyOK_in h1
      rw [hb, if_pos ⟨h1, h2⟩]
      simp only [spec_EvalPoly.j0, Bool.false_eq_true, if_false]
      exact evalP_run_spec env h2 P hl hp P.length k 0 0 (by omega) (by omega)
    · have hb : ((env.length : Int) != 4) = true := by rw [bne_iff_ne]; omega
      rw [hb, hbad, if_neg (fun h => h2 h.2)]
  · rw [if_neg h1, hbad, if_neg (fun h => h1 h.1)]
theorem evalP_inner_impl (env ps : List Int) (he : env.length = 4) (hp : powOK ps = true) (P : List S101) (n s : Int) (i : Nat) (hi : i ≤ 1048576) (m : Nat) (hm : 20 ≤ m) (R : Option (Int × Bool)) (d : Nat) : ∀ (k j : Nat) (x : Int), j + d = 4 → m + d < k → (∀ k', m ≤ k' → impl_EvalPoly.l0 k' env (wrap64 (s + prodFrom env ps d j x)) P n ((i + 1 : Nat) : Int) = R) →
    impl_EvalPoly.l1 k env s x P n (i : Int) ps (ps.length : Int) (j : Int) = R := by
  have hl := powOK_len hp
  induction d with
  | zero =>
    intro k j x hj hk hR
    obtain ⟨k, rfl⟩ : ∃ m, k = m + 1 := ⟨k - 1, by omega⟩
    simp only [impl_EvalPoly.l1]
    rw [if_neg (by omega), w64s i (by omega)]
    exact hR k (by omega)
  | succ d ih =>
    intro k j x hj hk hR
    obtain ⟨k, rfl⟩ : ∃ m, k = m + 1 := ⟨k - 1, by omega⟩
    obtain ⟨h0, h9⟩ := powOK_in hp j (by omega)
    have e := impl_power_f (rd env (j : Int)) (rd ps (j : Int)).toNat (by omega) k (by omega)
    rw [Int.toNat_of_nonneg h0] at e
    simp only [impl_EvalPoly.l1]
    rw [if_pos (by omega), if_pos (by omega), if_pos (by omega), if_pos (by omega), e, Option.bind_some, w64s j (by omega)]
    exact ih k (j + 1) _ (by omega) (by omega) hR
theorem evalP_run_impl (env : List Int) (he : env.length = 4) (P : List S101) (hl : P.length ≤ 40) (hp : ∀ i, i < P.length → powOK (P.getD i z101).f0 = true) (d : Nat) : ∀ (k i : Nat) (s : Int), i + d = P.length → 10 * d + 30 < k →
    impl_EvalPoly.l0 k env s P (P.length : Int) (i : Int) = some (sumFrom env P d i s, true) := by
  induction d with
  | zero =>
    intro k i s hi hk
    obtain ⟨k, rfl⟩ : ∃ m, k = m + 1 := ⟨k - 1, by omega⟩
    simp only [impl_EvalPoly.l0]
    rw [if_neg (by omega)]; rfl
  | succ d ih =>
    intro k i s hi hk
    obtain ⟨k, rfl⟩ : ∃ m, k = m + 1 := ⟨k - 1, by omega⟩
    simp only [impl_EvalPoly.l0]
    rw [if_pos (by omega), if_pos (by omega), if_pos (by omega), rdI_getD]
    exact evalP_inner_impl env _ he (hp i (by omega)) P _ s i (by omega) (10 * d + 31) (by omega) _ 4 k 0 _ rfl (by omega) (fun k' hk' => ih k' (i + 1) _ (by omega) (by omega))
theorem evalP_impl (env : List Int) (P : List S101) (hP : P.length ≤ 1048576) (k : Nat) (hk : 2000000 ≤ k) : impl_EvalPoly.f k P env = some (evalP env P) := by
  obtain ⟨k, rfl⟩ : ∃ m, k = m + 1 := ⟨k - 1, by omega⟩
  unfold impl_EvalPoly.f evalP
  rw [implPoly_f P hP (k + 1) (by omega), Option.bind_some]
  have hbad : impl_EvalPoly.j0 (k + 1) P env true = some (0, false) := by simp [impl_EvalPoly.j0]
  by_cases h1 : polyOK P = true
  · rw [if_pos h1]
    by_cases h2 : env.length = 4
    · have hb : ((env.length : Int) != 4) = false := by rw [bne_eq_false_iff_eq]; omega
      obtain ⟨hl, hp⟩ := polyOK_in h1
      rw [hb, if_pos ⟨h1, h2⟩]
      simp only [impl_EvalPoly.j0, Bool.false_eq_true, if_false]
      exact evalP_run_impl env h2 P hl hp P.length k 0 0 (by omega) (by omega)
    · have hb : ((env.length : Int) != 4) = true := by rw [bne_iff_ne]; omega
      rw [hb, hbad, if_neg (fun h => h2 h.2)]
  · rw [if_neg h1, hbad, if_neg (fun h => h1 h.1)]
theorem FnExactEvalPoly : RdFnExactEvalPoly.Pure := by
  intro l env hl hok hel _
  refine ⟨100000000, ?_⟩
  unfold laws_FnExactEvalPoly.f
  by_cases hen : (env.length : Int) > 1048576
  · rw [if_pos hen]
  rw [if_neg hen]
  obtain ⟨t, ht, hh⟩ := szM_f l hl (fun x hx => (hok.2 x hx).1.1) 100000000 (by omega)
  rw [ht, Option.bind_some]
  by_cases h : t < 0
  · rw [if_pos h]
  · obtain ⟨_, _, h1, h2⟩ := hh.resolve_left h
    have hlen : (l.map cvM).length = l.length := List.length_map _
    have t0 := toM_f l h1 h2 100000000 (by omega)
    have t1 := toM_f l h1 h2 99999999 (by omega)
    have hin : ∀ x ∈ l.map cvM, x.f0.length ≤ 1048576 := fun x hx => by
      obtain ⟨y, hy, rfl⟩ := List.mem_map.1 hx
      exact h2 y hy
    have u0 := laws_toInt64S_f env (by omega) 100000000 (by omega)
    have u1 := laws_toInt64S_f env (by omega) 99999999 (by omega)
    have v1 := laws_eqInt64S_f env (by omega) 99999999 (by omega)
    have hs := evalP_spec env (l.map cvM) (by omega) 100000000 (by omega)
    have hi := evalP_impl env (l.map cvM) (by omega) 100000000 (by omega)
    have hq := eqM_f (l.map cvM) (by omega) hin 99999999 (by omega)
    generalize l.map cvM = L at *
    generalize evalP env L = p at *
    rw [if_neg h, t0, Option.bind_some, u0, Option.bind_some, hs, Option.bind_some, Option.bind_some, Option.bind_some, hi, Option.bind_some, if_pos rfl, bne_self_eq_false, show (100000000 : Nat) = 99999999 + 1 from rfl]
    simp only [laws_FnExactEvalPoly.j0]
    rw [if_neg (by simp), t1, Option.bind_some, hq, Option.bind_some, if_pos rfl, u1, Option.bind_some, v1, Option.bind_some, if_pos rfl]

end Go.Proofs.Ytlneknaiimmfmaa.Pure
