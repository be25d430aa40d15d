/- The program's RunFunc and the reference's run alike at every function; no condition. -/
import Derived.Test.YtpklnipnggocoaaPFnExactRunFuncx19
import Derived.Test.YtpklnipnggocoaaRdFnExactRunFunc
set_option linter.unusedVariables false
set_option linter.unusedSimpArgs false
namespace Go.Proofs.Ytpklnipnggocoaa.Pure
open Go.RowKit Go.Proofs.Ytpklnipnggocoaa.PFnExactRunFunc Go.Proofs.YtpklnipnggocoaaW.PrintWords Go.Proofs.YtpklnipnggocoaaW.PrintLast Go.Proofs.YtpklnipnggocoaaW.PrintMore

theorem w64 (x : Int) (h0 : -9223372036854775808 ≤ x) (h1 : x ≤ 9223372036854775807) : wrap64 x = x := by unfold wrap64; omega
theorem w64s (i : Nat) (h : i ≤ 140737488355328) : wrap64 ((i : Int) + 1) = ((i + 1 : Nat) : Int) := by rw [w64 _ (by omega) (by omega)]; omega
theorem rd_nat (l : List Int) (i : Nat) : rd l (i : Int) = l.getD i 0 := by simp [rd]
theorem getD_lt (l : List Int) (i : Nat) (h : i < l.length) : l.getD i 0 = l[i] := by simp [List.getD_eq_getElem?_getD, h]

theorem laws_toIntS_run (x0 : List Int) (hn : x0.length ≤ 140737488351232) (d : Nat) : ∀ (k i : Nat) (x3 : List Int), i + d = x0.length → x3.length = x0.length → (∀ j, j < i → x3[j]? = x0[j]?) → d < k →
  laws_toIntS.l0 k x0 x3 (i : Int) = some x0 := by
 induction d with
 | zero =>
  intro k i x3 hi hl hj hk
  obtain ⟨k, rfl⟩ : ∃ m, k = m + 1 := ⟨k - 1, by omega⟩
  simp only [laws_toIntS.l0]
  rw [if_neg (by omega)]
  congr 1
  apply List.ext_getElem?
  intro j
  by_cases h : j < i
  ·exact hj j h
  ·rw [List.getElem?_eq_none (by omega), List.getElem?_eq_none (by omega)]
 | succ d ih =>
  intro k i x3 hi hl hj hk
  obtain ⟨k, rfl⟩ : ∃ m, k = m + 1 := ⟨k - 1, by omega⟩
  simp only [laws_toIntS.l0]
  rw [if_pos (by omega), if_pos (by omega), if_pos (by omega), w64s i (by omega)]
  refine ih k (i + 1) _ (by omega) (by simpa using hl) ?_ (by omega)
  intro j hji
  rw [Int.toNat_natCast, rd_nat, List.getElem?_set]
  by_cases h : i = j
  ·subst h
   rw [if_pos rfl, if_pos (by omega), getD_lt _ _ (by omega), List.getElem?_eq_getElem (by omega)]
  ·rw [if_neg h]
   exact hj j (by omega)
theorem laws_toIntS_f (l : List Int) (hn : l.length ≤ 1048576) (k : Nat) (hk : l.length < k) : laws_toIntS.f k l = some l := by
 unfold laws_toIntS.f
 rw [if_pos (by omega), if_pos (by omega)]
 exact laws_toIntS_run l (by omega) l.length k 0 _ (by omega) (by simp) (fun j hj => by omega) hk

theorem laws_toInt64S_run (x0 : List Int) (hn : x0.length ≤ 140737488351232) (d : Nat) : ∀ (k i : Nat) (x3 : List Int), i + d = x0.length → x3.length = x0.length → (∀ j, j < i → x3[j]? = x0[j]?) → d < k →
  laws_toInt64S.l0 k x0 x3 (i : Int) = some x0 := by
 induction d with
 | zero =>
  intro k i x3 hi hl hj hk
  obtain ⟨k, rfl⟩ : ∃ m, k = m + 1 := ⟨k - 1, by omega⟩
  simp only [laws_toInt64S.l0]
  rw [if_neg (by omega)]
  congr 1
  apply List.ext_getElem?
  intro j
  by_cases h : j < i
  ·exact hj j h
  ·rw [List.getElem?_eq_none (by omega), List.getElem?_eq_none (by omega)]
 | succ d ih =>
  intro k i x3 hi hl hj hk
  obtain ⟨k, rfl⟩ : ∃ m, k = m + 1 := ⟨k - 1, by omega⟩
  simp only [laws_toInt64S.l0]
  rw [if_pos (by omega), if_pos (by omega), if_pos (by omega), w64s i (by omega)]
  refine ih k (i + 1) _ (by omega) (by simpa using hl) ?_ (by omega)
  intro j hji
  rw [Int.toNat_natCast, rd_nat, List.getElem?_set]
  by_cases h : i = j
  ·subst h
   rw [if_pos rfl, if_pos (by omega), getD_lt _ _ (by omega), List.getElem?_eq_getElem (by omega)]
  ·rw [if_neg h]
   exact hj j (by omega)
theorem laws_toInt64S_f (l : List Int) (hn : l.length ≤ 1048576) (k : Nat) (hk : l.length < k) : laws_toInt64S.f k l = some l := by
 unfold laws_toInt64S.f
 rw [if_pos (by omega), if_pos (by omega)]
 exact laws_toInt64S_run l (by omega) l.length k 0 _ (by omega) (by simp) (fun j hj => by omega) hk

theorem laws_eqIntS_run (x0 : List Int) (hn : x0.length ≤ 140737488351232) (d : Nat) : ∀ (k i : Nat), i + d = x0.length → d < k → laws_eqIntS.l0 k x0 x0 (i : Int) = some true := by
 induction d with
 | zero =>
  intro k i hi hk
  obtain ⟨k, rfl⟩ : ∃ m, k = m + 1 := ⟨k - 1, by omega⟩
  simp only [laws_eqIntS.l0]
  rw [if_neg (by omega)]
 | succ d ih =>
  intro k i hi hk
  obtain ⟨k, rfl⟩ : ∃ m, k = m + 1 := ⟨k - 1, by omega⟩
  simp only [laws_eqIntS.l0]
  rw [if_pos (by omega), if_pos (by omega), if_pos (by omega), if_pos trivial, w64s i (by omega)]
  exact ih k (i + 1) (by omega) (by omega)
theorem laws_eqIntS_f (l : List Int) (hn : l.length ≤ 140737488351232) (k : Nat) (hk : l.length < k) : laws_eqIntS.f k l l = some true := by
 unfold laws_eqIntS.f
 rw [if_pos rfl]
 exact laws_eqIntS_run l hn l.length k 0 (by omega) hk

theorem laws_eqInt64S_run (x0 : List Int) (hn : x0.length ≤ 140737488351232) (d : Nat) : ∀ (k i : Nat), i + d = x0.length → d < k → laws_eqInt64S.l0 k x0 x0 (i : Int) = some true := by
 induction d with
 | zero =>
  intro k i hi hk
  obtain ⟨k, rfl⟩ : ∃ m, k = m + 1 := ⟨k - 1, by omega⟩
  simp only [laws_eqInt64S.l0]
  rw [if_neg (by omega)]
 | succ d ih =>
  intro k i hi hk
  obtain ⟨k, rfl⟩ : ∃ m, k = m + 1 := ⟨k - 1, by omega⟩
  simp only [laws_eqInt64S.l0]
  rw [if_pos (by omega), if_pos (by omega), if_pos (by omega), if_pos trivial, w64s i (by omega)]
  exact ih k (i + 1) (by omega) (by omega)
theorem laws_eqInt64S_f (l : List Int) (hn : l.length ≤ 140737488351232) (k : Nat) (hk : l.length < k) : laws_eqInt64S.f k l l = some true := by
 unfold laws_eqInt64S.f
 rw [if_pos rfl]
 exact laws_eqInt64S_run l hn l.length k 0 (by omega) hk

/-- What markIntS writes: numbers from one on. -/
def marked (xs : List Int) (m : Int) : List Int := (List.range xs.length).map fun j : Nat => m + (j : Int)
theorem laws_markInt64S_run (n : Nat) (hn : n ≤ 140737480000000) (m0 : Nat) (hm0 : m0 ≤ 3000000) (d : Nat) : ∀ (k i : Nat) (x : List Int), i + d = n → x.length = n → (∀ j, j < i → x[j]? = some ((m0 : Int) + (j : Int))) → d < k →
  laws_markInt64S.l0 k x (((m0 + i : Nat)) : Int) (i : Int) = some (((m0 + n : Nat) : Int), (List.range n).map fun j : Nat => ((m0 : Int) + (j : Int))) := by
 induction d with
 | zero =>
  intro k i x hi hl hj hk
  obtain ⟨k, rfl⟩ : ∃ m, k = m + 1 := ⟨k - 1, by omega⟩
  simp only [laws_markInt64S.l0]
  rw [if_neg (by omega)]
  have e : i = n := by omega
  subst e
  congr 2
  apply List.ext_getElem?
  intro j
  by_cases h : j < i
  ·rw [hj j h, List.getElem?_map, List.getElem?_range h]; rfl
  ·rw [List.getElem?_eq_none (by omega), List.getElem?_eq_none (by simp; omega)]
 | succ d ih =>
  intro k i x hi hl hj hk
  obtain ⟨k, rfl⟩ : ∃ m, k = m + 1 := ⟨k - 1, by omega⟩
  simp only [laws_markInt64S.l0]
  rw [if_pos (by omega), if_pos (by omega), w64s i (by omega), w64s (m0 + i) (by omega)]
  refine ih k (i + 1) _ (by omega) (by simpa using hl) ?_ (by omega)
  intro j hji
  rw [Int.toNat_natCast, List.getElem?_set]
  by_cases h : i = j
  ·subst h
   rw [if_pos rfl, if_pos (by omega)]
   congr 1
  ·rw [if_neg h]
   exact hj j (by omega)
theorem laws_heldInt64S_run (n : Nat) (hn : n ≤ 140737480000000) (m0 : Nat) (hm0 : m0 ≤ 3000000) (d : Nat) : ∀ (k i : Nat), i + d = n → d < k →
  laws_heldInt64S.l0 k ((List.range n).map fun j : Nat => ((m0 : Int) + (j : Int))) (((m0 + i : Nat)) : Int) (i : Int) = some (((m0 + n : Nat) : Int)) := by
 induction d with
 | zero =>
  intro k i hi hk
  obtain ⟨k, rfl⟩ : ∃ m, k = m + 1 := ⟨k - 1, by omega⟩
  simp only [laws_heldInt64S.l0]
  rw [if_neg (by simp; omega)]
  congr 2
  omega
 | succ d ih =>
  intro k i hi hk
  obtain ⟨k, rfl⟩ : ∃ m, k = m + 1 := ⟨k - 1, by omega⟩
  simp only [laws_heldInt64S.l0]
  have hr : rd ((List.range n).map fun j : Nat => ((m0 : Int) + (j : Int))) (i : Int) = ((m0 + i : Nat) : Int) := by
   rw [rd_nat, getD_lt _ _ (by simp; omega)]
   simp
  rw [if_pos (by simp; omega), if_pos (by omega), hr, if_pos rfl, w64s i (by omega), w64s (m0 + i) (by omega)]
  exact ih k (i + 1) (by omega) (by omega)
theorem laws_markInt64S_f (x : List Int) (hn : x.length ≤ 140737480000000) (k : Nat) (hk : x.length < k) : laws_markInt64S.f k x 1 = some (((1 + x.length : Nat) : Int), (List.range x.length).map fun j : Nat => ((1 : Nat) : Int) + (j : Int)) :=
 laws_markInt64S_run x.length hn 1 (by omega) x.length k 0 x (by omega) rfl (fun j hj => by omega) hk
theorem laws_heldInt64S_f (n : Nat) (hn : n ≤ 140737480000000) (k : Nat) (hk : n < k) : laws_heldInt64S.f k ((List.range n).map fun j : Nat => ((1 : Nat) : Int) + (j : Int)) 1 = some (((1 + n : Nat) : Int)) :=
 laws_heldInt64S_run n hn 1 (by omega) n k 0 (by omega) hk
/-! Code: size, copy, comparison. -/
theorem szI_f (l : List Int) (m : Int) (hm0 : 0 ≤ m) (hm : m ≤ 1048576) (hl : l.length ≤ 9223372036854775807) : laws_szIntS.f l m = some (if m - (l.length : Int) < 0 then -1 else m - (l.length : Int)) := by
 unfold laws_szIntS.f
 have e : wrap64 (m - (l.length : Int)) = m - (l.length : Int) := by unfold wrap64; omega
 rw [e]
 split <;> rfl
def SzOK (o : Option Int) (m : Int) (P : Prop) : Prop := ∃ t, o = some t ∧ (t < 0 ∨ (0 ≤ t ∧ t ≤ m ∧ P))
def cvI (x : S112) : S69 := ⟨x.f0, x.f1, x.f2⟩
def cvJ (x : S114) : S84 := ⟨x.f0, x.f1⟩
def cvB (x : S77) : S66 := ⟨x.f0, x.f1.map cvI, x.f2, x.f3, x.f4.map cvJ⟩
def wI (x : S112) : Prop := x.f2.length ≤ 9223372036854775807
def wJ (x : S114) : Prop := x.f1.length ≤ 9223372036854775807
def wB (x : S77) : Prop := x.f1.length ≤ 9223372036854775807 ∧ (∀ y ∈ x.f1, wI y) ∧ x.f4.length ≤ 9223372036854775807 ∧ ∀ y ∈ x.f4, wJ y
def gI (x : S112) : Prop := x.f2.length ≤ 1048576
def gJ (x : S114) : Prop := x.f1.length ≤ 1048576
def gB (x : S77) : Prop := (x.f1.length ≤ 1048576 ∧ ∀ y ∈ x.f1, gI y) ∧ (x.f4.length ≤ 1048576 ∧ ∀ y ∈ x.f4, gJ y)
def hI (x : S69) : Prop := x.f2.length ≤ 1048576
def hJ (x : S84) : Prop := x.f1.length ≤ 1048576
def hB (x : S66) : Prop := (x.f1.length ≤ 1048576 ∧ ∀ y ∈ x.f1, hI y) ∧ (x.f4.length ≤ 1048576 ∧ ∀ y ∈ x.f4, hJ y)
theorem hgI (l : List S112) (h : ∀ y ∈ l, gI y) : ∀ y ∈ l.map cvI, hI y := by intro y hy; obtain ⟨x, hx, rfl⟩ := List.mem_map.1 hy; exact h x hx
theorem hgJ (l : List S114) (h : ∀ y ∈ l, gJ y) : ∀ y ∈ l.map cvJ, hJ y := by intro y hy; obtain ⟨x, hx, rfl⟩ := List.mem_map.1 hy; exact h x hx
theorem hgB (l : List S77) (h : ∀ y ∈ l, gB y) : ∀ y ∈ l.map cvB, hB y := by
 intro y hy
 obtain ⟨x, hx, rfl⟩ := List.mem_map.1 hy
 obtain ⟨⟨h1, h2⟩, h3, h4⟩ := h x hx
 exact ⟨⟨by show (x.f1.map cvI).length ≤ _; rw [List.length_map]; exact h1, hgI _ h2⟩, by show (x.f4.map cvJ).length ≤ _; rw [List.length_map]; exact h3, hgJ _ h4⟩
theorem szIe (x : S112) (h : wI x) (m : Int) (h0 : 0 ≤ m) (h1 : m ≤ 1048576) (k : Nat) (hk : 0 < k) : SzOK (laws_szInst.f x.f0 x.f1 x.f2 m) m (gI x) := by
 unfold laws_szInst.f
 have h' : x.f2.length ≤ 9223372036854775807 := h
 rw [szI_f _ m h0 h1 h', Option.bind_some]
 by_cases hneg : m - (x.f2.length : Int) < 0
 ·rw [if_pos hneg, if_pos (by omega)]; exact ⟨_, rfl, .inl (by omega)⟩
 ·rw [if_neg hneg, if_neg (by omega)]; exact ⟨_, rfl, .inr ⟨by omega, by omega, (show x.f2.length ≤ 1048576 by omega)⟩⟩
theorem toIe (x : S112) (h : gI x) (k : Nat) (hk : 1048577 < k) : laws_toInst.f k x.f0 x.f1 x.f2 = some (x.f0, x.f1, x.f2) := by
 unfold laws_toInst.f
 rw [laws_toIntS_f _ h k (by have : x.f2.length ≤ 1048576 := h; omega)]
 rfl
theorem eqIe (x : S69) (h : hI x) (k : Nat) (hk : 1048577 < k) : laws_eqInst.f k x.f0 x.f1 x.f2 x.f0 x.f1 x.f2 = some true := by
 have h' : x.f2.length ≤ 1048576 := h
 unfold laws_eqInst.f
 rw [if_pos rfl, if_pos rfl, laws_eqIntS_f _ (by omega) k (by omega), Option.bind_some, if_pos rfl]
theorem rdlI (l : List S112) (i : Nat) (h : i < l.length) : rd_T112 l (i : Int) = l[i] := by unfold rd_T112; rw [Int.toNat_natCast, List.getD_eq_getElem?_getD, List.getElem?_eq_getElem h]; rfl
theorem rdiI (l : List S69) (i : Nat) (h : i < l.length) : rd_T69 l (i : Int) = l[i] := by unfold rd_T69; rw [Int.toNat_natCast, List.getD_eq_getElem?_getD, List.getElem?_eq_getElem h]; rfl
theorem szI_run (x0 : List S112) (hn : x0.length ≤ 1048576) (hin : ∀ x ∈ x0, wI x) (d : Nat) : ∀ (k i : Nat) (m : Int), i + d = x0.length → d + 0 < k → 0 ≤ m → m ≤ 1048576 →
  SzOK (laws_szInstS.l0 k x0 m (i : Int)) m (∀ x ∈ x0.drop i, gI x) := by
 induction d with
 | zero =>
  intro k i m hi hk h0 h1
  obtain ⟨k, rfl⟩ : ∃ j, k = j + 1 := ⟨k - 1, by omega⟩
  simp only [laws_szInstS.l0]
  rw [if_neg (by omega)]
  exact ⟨_, rfl, .inr ⟨h0, Int.le_refl _, by rw [List.drop_of_length_le (by omega)]; intro x hx; cases hx⟩⟩
 | succ d ih =>
  intro k i m hi hk h0 h1
  obtain ⟨k, rfl⟩ : ∃ j, k = j + 1 := ⟨k - 1, by omega⟩
  have hil : i < x0.length := by omega
  simp only [laws_szInstS.l0]
  rw [if_pos (by omega), if_pos (by omega), rdlI _ i hil]
  obtain ⟨t, ht, hh⟩ := szIe x0[i] (hin _ (List.getElem_mem hil)) m h0 h1 k (by omega)
  rw [ht, Option.bind_some]
  by_cases hneg : t < 0
  ·rw [if_pos hneg]; exact ⟨_, rfl, .inl (by omega)⟩
  ·obtain ⟨ha, hb, hc⟩ := hh.resolve_left hneg
   rw [if_neg hneg, w64s i (by omega)]
   obtain ⟨t', ht', hh'⟩ := ih k (i + 1) t (by omega) (by omega) ha (by omega)
   refine ⟨t', ht', hh'.imp id fun h => ⟨h.1, by have := h.2.1; omega, ?_⟩⟩
   intro x hx
   rw [List.drop_eq_getElem_cons hil] at hx
   rcases List.mem_cons.1 hx with rfl | hx
   ·exact hc
   ·exact h.2.2 x hx
theorem szI_f' (l : List S112) (m : Int) (h0 : 0 ≤ m) (hm : m ≤ 1048576) (hl : l.length ≤ 9223372036854775807) (hin : ∀ x ∈ l, wI x) (k : Nat) (hk : 1048576 + 0 < k) : SzOK (laws_szInstS.f k l m) m (l.length ≤ 1048576 ∧ ∀ x ∈ l, gI x) := by
 unfold laws_szInstS.f
 have e : wrap64 (m - (l.length : Int)) = m - (l.length : Int) := by unfold wrap64; omega
 rw [e]
 by_cases h : m - (l.length : Int) < 0
 ·rw [if_pos h]; exact ⟨_, rfl, .inl (by omega)⟩
 ·rw [if_neg h]
  obtain ⟨t, ht, hh⟩ := szI_run l (by omega) hin l.length k 0 (m - (l.length : Int)) (by omega) (by omega) (by omega) (by omega)
  refine ⟨t, ht, hh.imp id fun h => ⟨h.1, by have := h.2.1; omega, by omega, fun x hx => h.2.2 x (by rw [List.drop_zero]; exact hx)⟩⟩
theorem toI_run (x0 : List S112) (hn : x0.length ≤ 1048576) (hin : ∀ x ∈ x0, gI x) (d : Nat) : ∀ (k i : Nat) (x3 : List S69), i + d = x0.length → x3.length = x0.length → (∀ j, j < i → x3[j]? = (x0.map cvI)[j]?) → d + 1048577 < k →
  laws_toInstS.l0 k x0 x3 (i : Int) = some (x0.map cvI) := by
 induction d with
 | zero =>
  intro k i x3 hi hl hj hk
  obtain ⟨k, rfl⟩ : ∃ m, k = m + 1 := ⟨k - 1, by omega⟩
  simp only [laws_toInstS.l0]
  rw [if_neg (by omega)]
  congr 1
  apply List.ext_getElem?
  intro j
  by_cases h : j < i
  ·exact hj j h
  ·rw [List.getElem?_eq_none (by omega), List.getElem?_eq_none (by rw [List.length_map]; omega)]
 | succ d ih =>
  intro k i x3 hi hl hj hk
  obtain ⟨k, rfl⟩ : ∃ m, k = m + 1 := ⟨k - 1, by omega⟩
  have hil : i < x0.length := by omega
  simp only [laws_toInstS.l0]
  rw [if_pos (by omega), if_pos (by omega), rdlI _ i hil, toIe x0[i] (hin _ (List.getElem_mem hil)) k (by omega), Option.bind_some, if_pos (by omega), w64s i (by omega)]
  refine ih k (i + 1) _ (by omega) (by simpa using hl) ?_ (by omega)
  intro j hji
  rw [Int.toNat_natCast, List.getElem?_set]
  by_cases h : i = j
  ·subst h
   rw [if_pos rfl, if_pos (by omega), List.getElem?_map, List.getElem?_eq_getElem hil]
   rfl
  ·rw [if_neg h]
   exact hj j (by omega)
theorem toI_f (l : List S112) (hn : l.length ≤ 1048576) (hin : ∀ x ∈ l, gI x) (k : Nat) (hk : 1048576 + 1048577 < k) : laws_toInstS.f k l = some (l.map cvI) := by
 unfold laws_toInstS.f
 rw [if_pos (by omega), if_pos (by omega)]
 exact toI_run l hn hin l.length k 0 _ (by omega) (by simp) (fun j hj => by omega) (by omega)
theorem eqI_run (x0 : List S69) (hn : x0.length ≤ 1048576) (hin : ∀ x ∈ x0, hI x) (d : Nat) : ∀ (k i : Nat), i + d = x0.length → d + 1048577 < k → laws_eqInstS.l0 k x0 x0 (i : Int) = some true := by
 induction d with
 | zero =>
  intro k i hi hk
  obtain ⟨k, rfl⟩ : ∃ m, k = m + 1 := ⟨k - 1, by omega⟩
  simp only [laws_eqInstS.l0]
  rw [if_neg (by omega)]
 | succ d ih =>
  intro k i hi hk
  obtain ⟨k, rfl⟩ : ∃ m, k = m + 1 := ⟨k - 1, by omega⟩
  have hil : i < x0.length := by omega
  simp only [laws_eqInstS.l0]
  rw [if_pos (by omega), if_pos (by omega), if_pos (by omega), rdiI _ i hil, eqIe x0[i] (hin _ (List.getElem_mem hil)) k (by omega), Option.bind_some, if_pos rfl, w64s i (by omega)]
  exact ih k (i + 1) (by omega) (by omega)
theorem eqI_f (l : List S69) (hn : l.length ≤ 1048576) (hin : ∀ x ∈ l, hI x) (k : Nat) (hk : 1048576 + 1048577 < k) : laws_eqInstS.f k l l = some true := by
 unfold laws_eqInstS.f
 rw [if_pos rfl]
 exact eqI_run l hn hin l.length k 0 (by omega) (by omega)
theorem szJe (x : S114) (h : wJ x) (m : Int) (h0 : 0 ≤ m) (h1 : m ≤ 1048576) (k : Nat) (hk : 0 < k) : SzOK (laws_szJump.f x.f0 x.f1 m) m (gJ x) := by
 unfold laws_szJump.f
 have h' : x.f1.length ≤ 9223372036854775807 := h
 rw [szI_f _ m h0 h1 h', Option.bind_some]
 by_cases hneg : m - (x.f1.length : Int) < 0
 ·rw [if_pos hneg, if_pos (by omega)]; exact ⟨_, rfl, .inl (by omega)⟩
 ·rw [if_neg hneg, if_neg (by omega)]; exact ⟨_, rfl, .inr ⟨by omega, by omega, (show x.f1.length ≤ 1048576 by omega)⟩⟩
theorem toJe (x : S114) (h : gJ x) (k : Nat) (hk : 1048577 < k) : laws_toJump.f k x.f0 x.f1 = some (x.f0, x.f1) := by
 unfold laws_toJump.f
 rw [laws_toIntS_f _ h k (by have : x.f1.length ≤ 1048576 := h; omega)]
 rfl
theorem eqJe (x : S84) (h : hJ x) (k : Nat) (hk : 1048577 < k) : laws_eqJump.f k x.f0 x.f1 x.f0 x.f1 = some true := by
 have h' : x.f1.length ≤ 1048576 := h
 unfold laws_eqJump.f
 rw [if_pos rfl, laws_eqIntS_f _ (by omega) k (by omega), Option.bind_some, if_pos rfl]
theorem rdlJ (l : List S114) (i : Nat) (h : i < l.length) : rd_T114 l (i : Int) = l[i] := by unfold rd_T114; rw [Int.toNat_natCast, List.getD_eq_getElem?_getD, List.getElem?_eq_getElem h]; rfl
theorem rdiJ (l : List S84) (i : Nat) (h : i < l.length) : rd_T84 l (i : Int) = l[i] := by unfold rd_T84; rw [Int.toNat_natCast, List.getD_eq_getElem?_getD, List.getElem?_eq_getElem h]; rfl
theorem szJ_run (x0 : List S114) (hn : x0.length ≤ 1048576) (hin : ∀ x ∈ x0, wJ x) (d : Nat) : ∀ (k i : Nat) (m : Int), i + d = x0.length → d + 0 < k → 0 ≤ m → m ≤ 1048576 →
  SzOK (laws_szJumpS.l0 k x0 m (i : Int)) m (∀ x ∈ x0.drop i, gJ x) := by
 induction d with
 | zero =>
  intro k i m hi hk h0 h1
  obtain ⟨k, rfl⟩ : ∃ j, k = j + 1 := ⟨k - 1, by omega⟩
  simp only [laws_szJumpS.l0]
  rw [if_neg (by omega)]
  exact ⟨_, rfl, .inr ⟨h0, Int.le_refl _, by rw [List.drop_of_length_le (by omega)]; intro x hx; cases hx⟩⟩
 | succ d ih =>
  intro k i m hi hk h0 h1
  obtain ⟨k, rfl⟩ : ∃ j, k = j + 1 := ⟨k - 1, by omega⟩
  have hil : i < x0.length := by omega
  simp only [laws_szJumpS.l0]
  rw [if_pos (by omega), if_pos (by omega), rdlJ _ i hil]
  obtain ⟨t, ht, hh⟩ := szJe x0[i] (hin _ (List.getElem_mem hil)) m h0 h1 k (by omega)
  rw [ht, Option.bind_some]
  by_cases hneg : t < 0
  ·rw [if_pos hneg]; exact ⟨_, rfl, .inl (by omega)⟩
  ·obtain ⟨ha, hb, hc⟩ := hh.resolve_left hneg
   rw [if_neg hneg, w64s i (by omega)]
   obtain ⟨t', ht', hh'⟩ := ih k (i + 1) t (by omega) (by omega) ha (by omega)
   refine ⟨t', ht', hh'.imp id fun h => ⟨h.1, by have := h.2.1; omega, ?_⟩⟩
   intro x hx
   rw [List.drop_eq_getElem_cons hil] at hx
   rcases List.mem_cons.1 hx with rfl | hx
   ·exact hc
   ·exact h.2.2 x hx
theorem szJ_f (l : List S114) (m : Int) (h0 : 0 ≤ m) (hm : m ≤ 1048576) (hl : l.length ≤ 9223372036854775807) (hin : ∀ x ∈ l, wJ x) (k : Nat) (hk : 1048576 + 0 < k) : SzOK (laws_szJumpS.f k l m) m (l.length ≤ 1048576 ∧ ∀ x ∈ l, gJ x) := by
 unfold laws_szJumpS.f
 have e : wrap64 (m - (l.length : Int)) = m - (l.length : Int) := by unfold wrap64; omega
 rw [e]
 by_cases h : m - (l.length : Int) < 0
 ·rw [if_pos h]; exact ⟨_, rfl, .inl (by omega)⟩
 ·rw [if_neg h]
  obtain ⟨t, ht, hh⟩ := szJ_run l (by omega) hin l.length k 0 (m - (l.length : Int)) (by omega) (by omega) (by omega) (by omega)
  refine ⟨t, ht, hh.imp id fun h => ⟨h.1, by have := h.2.1; omega, by omega, fun x hx => h.2.2 x (by rw [List.drop_zero]; exact hx)⟩⟩
theorem toJ_run (x0 : List S114) (hn : x0.length ≤ 1048576) (hin : ∀ x ∈ x0, gJ x) (d : Nat) : ∀ (k i : Nat) (x3 : List S84), i + d = x0.length → x3.length = x0.length → (∀ j, j < i → x3[j]? = (x0.map cvJ)[j]?) → d + 1048577 < k →
  laws_toJumpS.l0 k x0 x3 (i : Int) = some (x0.map cvJ) := by
 induction d with
 | zero =>
  intro k i x3 hi hl hj hk
  obtain ⟨k, rfl⟩ : ∃ m, k = m + 1 := ⟨k - 1, by omega⟩
  simp only [laws_toJumpS.l0]
  rw [if_neg (by omega)]
  congr 1
  apply List.ext_getElem?
  intro j
  by_cases h : j < i
  ·exact hj j h
  ·rw [List.getElem?_eq_none (by omega), List.getElem?_eq_none (by rw [List.length_map]; omega)]
 | succ d ih =>
  intro k i x3 hi hl hj hk
  obtain ⟨k, rfl⟩ : ∃ m, k = m + 1 := ⟨k - 1, by omega⟩
  have hil : i < x0.length := by omega
  simp only [laws_toJumpS.l0]
  rw [if_pos (by omega), if_pos (by omega), rdlJ _ i hil, toJe x0[i] (hin _ (List.getElem_mem hil)) k (by omega), Option.bind_some, if_pos (by omega), w64s i (by omega)]
  refine ih k (i + 1) _ (by omega) (by simpa using hl) ?_ (by omega)
  intro j hji
  rw [Int.toNat_natCast, List.getElem?_set]
  by_cases h : i = j
  ·subst h
   rw [if_pos rfl, if_pos (by omega), List.getElem?_map, List.getElem?_eq_getElem hil]
   rfl
  ·rw [if_neg h]
   exact hj j (by omega)
theorem toJ_f (l : List S114) (hn : l.length ≤ 1048576) (hin : ∀ x ∈ l, gJ x) (k : Nat) (hk : 1048576 + 1048577 < k) : laws_toJumpS.f k l = some (l.map cvJ) := by
 unfold laws_toJumpS.f
 rw [if_pos (by omega), if_pos (by omega)]
 exact toJ_run l hn hin l.length k 0 _ (by omega) (by simp) (fun j hj => by omega) (by omega)
theorem eqJ_run (x0 : List S84) (hn : x0.length ≤ 1048576) (hin : ∀ x ∈ x0, hJ x) (d : Nat) : ∀ (k i : Nat), i + d = x0.length → d + 1048577 < k → laws_eqJumpS.l0 k x0 x0 (i : Int) = some true := by
 induction d with
 | zero =>
  intro k i hi hk
  obtain ⟨k, rfl⟩ : ∃ m, k = m + 1 := ⟨k - 1, by omega⟩
  simp only [laws_eqJumpS.l0]
  rw [if_neg (by omega)]
 | succ d ih =>
  intro k i hi hk
  obtain ⟨k, rfl⟩ : ∃ m, k = m + 1 := ⟨k - 1, by omega⟩
  have hil : i < x0.length := by omega
  simp only [laws_eqJumpS.l0]
  rw [if_pos (by omega), if_pos (by omega), if_pos (by omega), rdiJ _ i hil, eqJe x0[i] (hin _ (List.getElem_mem hil)) k (by omega), Option.bind_some, if_pos rfl, w64s i (by omega)]
  exact ih k (i + 1) (by omega) (by omega)
theorem eqJ_f (l : List S84) (hn : l.length ≤ 1048576) (hin : ∀ x ∈ l, hJ x) (k : Nat) (hk : 1048576 + 1048577 < k) : laws_eqJumpS.f k l l = some true := by
 unfold laws_eqJumpS.f
 rw [if_pos rfl]
 exact eqJ_run l hn hin l.length k 0 (by omega) (by omega)
theorem szBe (x : S77) (h : wB x) (m : Int) (h0 : 0 ≤ m) (h1 : m ≤ 1048576) (k : Nat) (hk : 1048577 < k) : SzOK (laws_szBlock.f k x.f0 x.f1 x.f2 x.f3 x.f4 m) m (gB x) := by
 unfold laws_szBlock.f
 obtain ⟨t, ht, hh⟩ := szI_f' x.f1 m h0 h1 h.1 h.2.1 k (by omega)
 rw [ht, Option.bind_some]
 by_cases hneg : t < 0
 ·rw [if_pos hneg]; exact ⟨_, rfl, .inl (by omega)⟩
 ·obtain ⟨ha, hb, hc⟩ := hh.resolve_left hneg
  rw [if_neg hneg]
  obtain ⟨t', ht', hh'⟩ := szJ_f x.f4 t ha (by omega) h.2.2.1 h.2.2.2 k (by omega)
  rw [ht', Option.bind_some]
  by_cases hneg' : t' < 0
  ·rw [if_pos hneg']; exact ⟨_, rfl, .inl (by omega)⟩
  ·obtain ⟨ha', hb', hc'⟩ := hh'.resolve_left hneg'
   rw [if_neg hneg']
   exact ⟨_, rfl, .inr ⟨ha', by omega, hc, hc'⟩⟩
theorem toBe (x : S77) (h : gB x) (k : Nat) (hk : 2097160 < k) : laws_toBlock.f k x.f0 x.f1 x.f2 x.f3 x.f4 = some (x.f0, x.f1.map cvI, x.f2, x.f3, x.f4.map cvJ) := by
 unfold laws_toBlock.f
 rw [toI_f x.f1 h.1.1 h.1.2 k (by omega), Option.bind_some, toJ_f x.f4 h.2.1 h.2.2 k (by omega), Option.bind_some]
theorem eqBe (x : S66) (h : hB x) (k : Nat) (hk : 2097160 < k) : laws_eqBlock.f k x.f0 x.f1 x.f2 x.f3 x.f4 x.f0 x.f1 x.f2 x.f3 x.f4 = some true := by
 unfold laws_eqBlock.f
 rw [if_pos rfl, eqI_f x.f1 h.1.1 h.1.2 k (by omega), Option.bind_some, if_pos rfl, if_pos rfl, if_pos rfl, eqJ_f x.f4 h.2.1 h.2.2 k (by omega), Option.bind_some, if_pos rfl]
theorem rdlB (l : List S77) (i : Nat) (h : i < l.length) : rd_T77 l (i : Int) = l[i] := by unfold rd_T77; rw [Int.toNat_natCast, List.getD_eq_getElem?_getD, List.getElem?_eq_getElem h]; rfl
theorem rdiB (l : List S66) (i : Nat) (h : i < l.length) : rd_T66 l (i : Int) = l[i] := by unfold rd_T66; rw [Int.toNat_natCast, List.getD_eq_getElem?_getD, List.getElem?_eq_getElem h]; rfl
theorem szB_run (x0 : List S77) (hn : x0.length ≤ 1048576) (hin : ∀ x ∈ x0, wB x) (d : Nat) : ∀ (k i : Nat) (m : Int), i + d = x0.length → d + 1048577 < k → 0 ≤ m → m ≤ 1048576 →
  SzOK (laws_szBlockS.l0 k x0 m (i : Int)) m (∀ x ∈ x0.drop i, gB x) := by
 induction d with
 | zero =>
  intro k i m hi hk h0 h1
  obtain ⟨k, rfl⟩ : ∃ j, k = j + 1 := ⟨k - 1, by omega⟩
  simp only [laws_szBlockS.l0]
  rw [if_neg (by omega)]
  exact ⟨_, rfl, .inr ⟨h0, Int.le_refl _, by rw [List.drop_of_length_le (by omega)]; intro x hx; cases hx⟩⟩
 | succ d ih =>
  intro k i m hi hk h0 h1
  obtain ⟨k, rfl⟩ : ∃ j, k = j + 1 := ⟨k - 1, by omega⟩
  have hil : i < x0.length := by omega
  simp only [laws_szBlockS.l0]
  rw [if_pos (by omega), if_pos (by omega), rdlB _ i hil]
  obtain ⟨t, ht, hh⟩ := szBe x0[i] (hin _ (List.getElem_mem hil)) m h0 h1 k (by omega)
  rw [ht, Option.bind_some]
  by_cases hneg : t < 0
  ·rw [if_pos hneg]; exact ⟨_, rfl, .inl (by omega)⟩
  ·obtain ⟨ha, hb, hc⟩ := hh.resolve_left hneg
   rw [if_neg hneg, w64s i (by omega)]
   obtain ⟨t', ht', hh'⟩ := ih k (i + 1) t (by omega) (by omega) ha (by omega)
   refine ⟨t', ht', hh'.imp id fun h => ⟨h.1, by have := h.2.1; omega, ?_⟩⟩
   intro x hx
   rw [List.drop_eq_getElem_cons hil] at hx
   rcases List.mem_cons.1 hx with rfl | hx
   ·exact hc
   ·exact h.2.2 x hx
theorem szB_f (l : List S77) (m : Int) (h0 : 0 ≤ m) (hm : m ≤ 1048576) (hl : l.length ≤ 9223372036854775807) (hin : ∀ x ∈ l, wB x) (k : Nat) (hk : 1048576 + 1048577 < k) : SzOK (laws_szBlockS.f k l m) m (l.length ≤ 1048576 ∧ ∀ x ∈ l, gB x) := by
 unfold laws_szBlockS.f
 have e : wrap64 (m - (l.length : Int)) = m - (l.length : Int) := by unfold wrap64; omega
 rw [e]
 by_cases h : m - (l.length : Int) < 0
 ·rw [if_pos h]; exact ⟨_, rfl, .inl (by omega)⟩
 ·rw [if_neg h]
  obtain ⟨t, ht, hh⟩ := szB_run l (by omega) hin l.length k 0 (m - (l.length : Int)) (by omega) (by omega) (by omega) (by omega)
  refine ⟨t, ht, hh.imp id fun h => ⟨h.1, by have := h.2.1; omega, by omega, fun x hx => h.2.2 x (by rw [List.drop_zero]; exact hx)⟩⟩
theorem toB_run (x0 : List S77) (hn : x0.length ≤ 1048576) (hin : ∀ x ∈ x0, gB x) (d : Nat) : ∀ (k i : Nat) (x3 : List S66), i + d = x0.length → x3.length = x0.length → (∀ j, j < i → x3[j]? = (x0.map cvB)[j]?) → d + 2097160 < k →
  laws_toBlockS.l0 k x0 x3 (i : Int) = some (x0.map cvB) := by
 induction d with
 | zero =>
  intro k i x3 hi hl hj hk
  obtain ⟨k, rfl⟩ : ∃ m, k = m + 1 := ⟨k - 1, by omega⟩
  simp only [laws_toBlockS.l0]
  rw [if_neg (by omega)]
  congr 1
  apply List.ext_getElem?
  intro j
  by_cases h : j < i
  ·exact hj j h
  ·rw [List.getElem?_eq_none (by omega), List.getElem?_eq_none (by rw [List.length_map]; omega)]
 | succ d ih =>
  intro k i x3 hi hl hj hk
  obtain ⟨k, rfl⟩ : ∃ m, k = m + 1 := ⟨k - 1, by omega⟩
  have hil : i < x0.length := by omega
  simp only [laws_toBlockS.l0]
  rw [if_pos (by omega), if_pos (by omega), rdlB _ i hil, toBe x0[i] (hin _ (List.getElem_mem hil)) k (by omega), Option.bind_some, if_pos (by omega), w64s i (by omega)]
  refine ih k (i + 1) _ (by omega) (by simpa using hl) ?_ (by omega)
  intro j hji
  rw [Int.toNat_natCast, List.getElem?_set]
  by_cases h : i = j
  ·subst h
   rw [if_pos rfl, if_pos (by omega), List.getElem?_map, List.getElem?_eq_getElem hil]
   rfl
  ·rw [if_neg h]
   exact hj j (by omega)
theorem toB_f (l : List S77) (hn : l.length ≤ 1048576) (hin : ∀ x ∈ l, gB x) (k : Nat) (hk : 1048576 + 2097160 < k) : laws_toBlockS.f k l = some (l.map cvB) := by
 unfold laws_toBlockS.f
 rw [if_pos (by omega), if_pos (by omega)]
 exact toB_run l hn hin l.length k 0 _ (by omega) (by simp) (fun j hj => by omega) (by omega)
theorem eqB_run (x0 : List S66) (hn : x0.length ≤ 1048576) (hin : ∀ x ∈ x0, hB x) (d : Nat) : ∀ (k i : Nat), i + d = x0.length → d + 2097160 < k → laws_eqBlockS.l0 k x0 x0 (i : Int) = some true := by
 induction d with
 | zero =>
  intro k i hi hk
  obtain ⟨k, rfl⟩ : ∃ m, k = m + 1 := ⟨k - 1, by omega⟩
  simp only [laws_eqBlockS.l0]
  rw [if_neg (by omega)]
 | succ d ih =>
  intro k i hi hk
  obtain ⟨k, rfl⟩ : ∃ m, k = m + 1 := ⟨k - 1, by omega⟩
  have hil : i < x0.length := by omega
  simp only [laws_eqBlockS.l0]
  rw [if_pos (by omega), if_pos (by omega), if_pos (by omega), rdiB _ i hil, eqBe x0[i] (hin _ (List.getElem_mem hil)) k (by omega), Option.bind_some, if_pos rfl, w64s i (by omega)]
  exact ih k (i + 1) (by omega) (by omega)
theorem eqB_f (l : List S66) (hn : l.length ≤ 1048576) (hin : ∀ x ∈ l, hB x) (k : Nat) (hk : 1048576 + 2097160 < k) : laws_eqBlockS.f k l l = some true := by
 unfold laws_eqBlockS.f
 rw [if_pos rfl]
 exact eqB_run l hn hin l.length k 0 (by omega) (by omega)
theorem szF_f (p : Int) (l : List S77) (hl : l.length ≤ 9223372036854775807) (hin : ∀ x ∈ l, wB x) (k : Nat) (hk : 2097160 < k) : SzOK (laws_szFunc.f k p l 1048576) 1048576 (l.length ≤ 1048576 ∧ ∀ x ∈ l, gB x) := by
 unfold laws_szFunc.f
 obtain ⟨t, ht, hh⟩ := szB_f l 1048576 (by omega) (by omega) hl hin k (by omega)
 rw [ht, Option.bind_some]
 by_cases hneg : t < 0
 ·rw [if_pos hneg]; exact ⟨_, rfl, .inl (by omega)⟩
 ·rw [if_neg hneg]; exact ⟨_, rfl, hh⟩
theorem toF_f (p : Int) (l : List S77) (hn : l.length ≤ 1048576) (hin : ∀ x ∈ l, gB x) (k : Nat) (hk : 4194320 < k) : laws_toFunc.f k p l = some (p, l.map cvB) := by
 unfold laws_toFunc.f
 rw [toB_f l hn hin k (by omega), Option.bind_some]
theorem eqF_f (p : Int) (l : List S66) (hn : l.length ≤ 1048576) (hin : ∀ x ∈ l, hB x) (k : Nat) (hk : 4194320 < k) : laws_eqFunc.f k p l p l = some true := by
 unfold laws_eqFunc.f
 rw [if_pos rfl, eqB_f l hn hin k (by omega), Option.bind_some, if_pos rfl]

/-! Code: what the reference's GoodFunc answers, in the program's words. -/
theorem l1In_dec (x a b : Int) : spec_l1In.f x a b = some (decide (a ≤ x ∧ x ≤ b)) := by
 unfold spec_l1In.f
 by_cases h : x ≥ a
 ·rw [if_pos h]; congr 1; rw [decide_eq_decide]; omega
 ·rw [if_neg h, decide_eq_false (by omega)]
theorem l12Arity_f (k : Nat) (hk : 0 < k) (op : Int) : spec_l12Arity.f k op = some (argsN op) := by
 obtain ⟨k, rfl⟩ : ∃ m, k = m + 1 := ⟨k - 1, by omega⟩
 unfold spec_l12Arity.f argsN
 by_cases h12 : op = 12
 ·rw [if_pos h12, if_pos h12]
 rw [if_neg h12, if_neg h12]
 by_cases h13 : op = 13
 ·rw [if_pos h13, if_pos h13]
 rw [if_neg h13, if_neg h13]
 by_cases h2 : op = 2
 ·rw [if_pos h2, if_neg (by omega)]
 rw [if_neg h2]
 unfold spec_l1Arity.f
 by_cases h1 : op = 1
 ·subst h1; rfl
 ·rw [if_neg h1]
  simp only [spec_l1Arity.j0]
  rw [if_neg (by simpa using h2)]
  by_cases h3 : op = 3
  ·subst h3; rfl
  ·rw [if_neg h3, if_neg h1, if_neg h3]
   by_cases h4 : op = 11
   ·subst h4; rfl
   ·rw [if_neg h4, if_neg h4]
    unfold spec_l1In.f
    by_cases h5 : op ≥ 4
    ·by_cases h6 : op ≤ 10
     ·rw [if_pos h5, Option.bind_some, decide_eq_true h6, if_pos rfl, if_pos (by omega)]; rfl
     ·rw [if_pos h5, Option.bind_some, decide_eq_false h6, if_neg (by simp), if_neg (by omega)]; rfl
    ·rw [if_neg h5, Option.bind_some, if_neg (by simp), if_neg (by omega)]; rfl
theorem count_run (L : List S66) (hn : L.length ≤ 8) (hs : L.all stepB = true) (d : Nat) : ∀ (k i : Nat) (t : Int), i + d = L.length → d < k → 0 ≤ t → t + 84 * (d : Int) ≤ 1000000 → spec_l12Count.l0 k t L (L.length : Int) (i : Int) = some (totB t (L.drop i)) := by
 induction d with
 | zero =>
  intro k i t hi hk h0 h1
  obtain ⟨k, rfl⟩ : ∃ m, k = m + 1 := ⟨k - 1, by omega⟩
  simp only [spec_l12Count.l0]
  rw [if_neg (by omega), List.drop_of_length_le (by omega)]
  rfl
 | succ d ih =>
  intro k i t hi hk h0 h1
  obtain ⟨k, rfl⟩ : ∃ m, k = m + 1 := ⟨k - 1, by omega⟩
  have hil : i < L.length := by omega
  simp only [spec_l12Count.l0]
  rw [if_pos (by omega), if_pos (by omega), if_pos (by omega), rdiB _ i hil]
  have hb := List.all_eq_true.1 hs _ (List.getElem_mem hil)
  unfold stepB at hb
  rw [Bool.and_eq_true, decide_eq_true_iff, decide_eq_true_iff] at hb
  have e1 : wrap64 (L[i].f0 + (L[i].f1.length : Int)) = L[i].f0 + (L[i].f1.length : Int) := by unfold wrap64; omega
  have e2 : wrap64 (t + (L[i].f0 + (L[i].f1.length : Int))) = t + sizeB L[i] := by unfold sizeB wrap64; omega
  rw [e1, e2, w64s i (by omega), ih k (i + 1) _ (by omega) (by omega) (by unfold sizeB; omega) (by unfold sizeB; omega), List.drop_eq_getElem_cons hil]
  rfl
/-- What the reference asks of a block. -/
def specB (t : Int) (L : List S66) (b : S66) : Bool := b.f1.all (instB t) && endsB t L b
theorem inst_step (t : Int) (x : S69) {R : Option Bool} : (if argsN x.f0 < 0 then some false else (if (x.f2.length : Int) = argsN x.f0 then (if okV t x.f2 = true then (if x.f0 = 1 then R else (if x.f1 = 0 then R else some false)) else some false) else some false)) = (if instB t x = true then R else some false) := by
 unfold instB
 by_cases h0 : argsN x.f0 < 0
 ·have hb : ((x.f2.length : Int) == argsN x.f0) = false := by rw [beq_eq_false_iff_ne]; omega
  rw [if_pos h0, hb]; rfl
 ·rw [if_neg h0]
  by_cases h1 : (x.f2.length : Int) = argsN x.f0
  ·have hb : ((x.f2.length : Int) == argsN x.f0) = true := by rw [beq_iff_eq]; exact h1
   rw [if_pos h1, hb, Bool.true_and]
   cases okV t x.f2 with
   | false => rw [Bool.and_false]; rfl
   | true =>
    rw [if_pos rfl, Bool.and_true]
    by_cases h2 : x.f0 = 1
    ·have e2 : (x.f0 == 1) = true := by rw [beq_iff_eq]; exact h2
     rw [if_pos h2, e2, Bool.true_or]; rfl
    ·have e2 : (x.f0 == 1) = false := by rw [beq_eq_false_iff_ne]; exact h2
     rw [if_neg h2, e2, Bool.false_or]
     by_cases h3 : x.f1 = 0
     ·have e3 : (x.f1 == 0) = true := by rw [beq_iff_eq]; exact h3
      rw [if_pos h3, e3]; rfl
     ·have e3 : (x.f1 == 0) = false := by rw [beq_eq_false_iff_ne]; exact h3
      rw [if_neg h3, e3]; rfl
  ·have hb : ((x.f2.length : Int) == argsN x.f0) = false := by rw [beq_eq_false_iff_ne]; exact h1
   rw [if_neg h1, hb]; rfl
theorem l2_run (p t : Int) (ht : 0 ≤ t ∧ t ≤ 1000000) (L : List S66) (n i' : Int) (b : S66) (hb : hB b) (i1 : Int) (hi1 : wrap64 (i' + 1) = i1) (K : Nat) (hK : 1048576 < K) (R : Bool) (hR : ∀ k, K ≤ k → spec_GoodFunc.l1 k t L n i1 p L = some R) (d : Nat) : ∀ (k j : Nat), j + d = b.f1.length → d + K < k →
  spec_GoodFunc.l2 k t L n i' b.f1 (b.f1.length : Int) (j : Int) p L b.f0 b.f1 b.f2 b.f3 b.f4 = some ((b.f1.drop j).all (instB t) && endsB t L b && R) := by
 have hln := hb.1.1
 induction d with
 | zero =>
  intro k j hi hk
  obtain ⟨k, rfl⟩ : ∃ m, k = m + 1 := ⟨k - 1, by omega⟩
  simp only [spec_GoodFunc.l2]
  rw [if_neg (by omega), List.drop_of_length_le (by omega)]
  unfold spec_l12Ends.f
  rw [if_pos ⟨ht, fun j hj => by have : j.f1.length ≤ 1048576 := hb.2.2 j hj; omega⟩, Option.bind_some, hi1, hR k (by omega)]
  cases endsB t L b <;> rfl
 | succ d ih =>
  intro k j hi hk
  obtain ⟨k, rfl⟩ : ∃ m, k = m + 1 := ⟨k - 1, by omega⟩
  have hil : j < b.f1.length := by omega
  have hx : b.f1[j].f2.length ≤ 1048576 := hb.1.2 _ (List.getElem_mem hil)
  simp only [spec_GoodFunc.l2]
  rw [if_pos (by omega), if_pos (by omega), if_pos (by omega), rdiI _ j hil, l12Arity_f k (by omega), Option.bind_some, Option.bind_some, l1All_ok _ t ⟨by omega, by omega⟩ (by omega) k (by omega), Option.bind_some, w64s j (by omega), inst_step, ih k (j + 1) (by omega) (by omega), List.drop_eq_getElem_cons hil, List.all_cons]
  cases instB t b.f1[j] <;> rfl
theorem l1_run (p t : Int) (ht : 0 ≤ t ∧ t ≤ 1000000) (L : List S66) (hn : L.length ≤ 8) (hin : ∀ x ∈ L, hB x) (d : Nat) : ∀ (k i : Nat), i + d = L.length → d * 1048580 + 1048580 < k → spec_GoodFunc.l1 k t L (L.length : Int) (i : Int) p L = some ((L.drop i).all (specB t L)) := by
 induction d with
 | zero =>
  intro k i hi hk
  obtain ⟨k, rfl⟩ : ∃ m, k = m + 1 := ⟨k - 1, by omega⟩
  simp only [spec_GoodFunc.l1]
  rw [if_neg (by omega), List.drop_of_length_le (by omega)]
  rfl
 | succ d ih =>
  intro k i hi hk
  obtain ⟨k, rfl⟩ : ∃ m, k = m + 1 := ⟨k - 1, by omega⟩
  have hil : i < L.length := by omega
  have hb := hin _ (List.getElem_mem hil)
  have hbl := hb.1.1
  simp only [spec_GoodFunc.l1]
  rw [if_pos (by omega), if_pos (by omega), if_pos (by omega), rdiB _ i hil]
  obtain ⟨K, hKd⟩ : ∃ K, K = d * 1048580 + 1048581 := ⟨_, rfl⟩
  have hK0 : d * 1048580 + 1048580 < K := by rw [hKd]; exact Nat.lt_succ_self _
  have hR : ∀ k', K ≤ k' → spec_GoodFunc.l1 k' t L (L.length : Int) ((i + 1 : Nat) : Int) p L = some ((L.drop (i + 1)).all (specB t L)) := by
   intro k' hk'
   exact ih k' (i + 1) (by omega) (Nat.lt_of_lt_of_le hK0 hk')
  have hw : wrap64 ((i : Int) + 1) = ((i + 1 : Nat) : Int) := w64s i (by omega)
  have hK1 : 1048576 < K := by omega
  have hK2 : L[i].f1.length + K < k := by omega
  have h := l2_run p t ht L (L.length : Int) (i : Int) L[i] hb _ hw K hK1 ((L.drop (i + 1)).all (specB t L)) hR L[i].f1.length k 0 (Nat.zero_add _) hK2
  rw [List.drop_zero] at h
  rw [List.drop_eq_getElem_cons hil, List.all_cons]
  exact h
theorem l0_run (p : Int) (hp : 0 ≤ p ∧ p ≤ 4) (L : List S66) (hn : L.length ≤ 8) (hin : ∀ x ∈ L, hB x) (d : Nat) : ∀ (k i : Nat), i + d = L.length → d + 20000000 < k → (L.take i).all stepB = true → spec_GoodFunc.l0 k L (L.length : Int) (i : Int) p L = some ((L.drop i).all stepB && (decide (totB p L ≤ 80) && L.all (specB (totB p L) L))) := by
 induction d with
 | zero =>
  intro k i hi hk ha
  obtain ⟨k, rfl⟩ : ∃ m, k = m + 1 := ⟨k - 1, by omega⟩
  rw [List.take_of_length_le (by omega)] at ha
  have hc := count_run L hn ha L.length k 0 p (by omega) (by omega) hp.1 (by omega)
  have hb := totB_le L p ha
  simp only [spec_GoodFunc.l0]
  rw [if_neg (by omega)]
  unfold spec_l12Count.f
  rw [List.drop_zero] at hc
  rw [show (0 : Int) = ((0 : Nat) : Int) from rfl, hc, Option.bind_some, List.drop_of_length_le (by omega), List.all_nil, Bool.true_and]
  by_cases h : totB p L > 80
  ·rw [if_pos h, decide_eq_false (by omega)]; rfl
  ·have h1 := l1_run p (totB p L) (by omega) L hn hin L.length k 0 (by omega) (by omega)
   rw [List.drop_zero] at h1
   rw [if_neg h, h1, decide_eq_true (by omega)]; rfl
 | succ d ih =>
  intro k i hi hk ha
  obtain ⟨k, rfl⟩ : ∃ m, k = m + 1 := ⟨k - 1, by omega⟩
  have hil : i < L.length := by omega
  simp only [spec_GoodFunc.l0]
  rw [if_pos (by omega), if_pos (by omega), if_pos (by omega), rdiB _ i hil, l1In_dec, Option.bind_some, List.drop_eq_getElem_cons hil, List.all_cons, w64s i (by omega)]
  by_cases h1 : 0 ≤ L[i].f0 ∧ L[i].f0 ≤ 4
  ·by_cases h2 : (L[i].f1.length : Int) > 80
   ·have hs : stepB L[i] = false := by unfold stepB; rw [decide_eq_false (show ¬ L[i].f1.length ≤ 80 by omega), Bool.and_false]
    rw [decide_eq_true h1, if_pos rfl, if_pos h2, hs]; rfl
   ·have hs : stepB L[i] = true := by unfold stepB; rw [decide_eq_true h1, decide_eq_true (show L[i].f1.length ≤ 80 by omega)]; rfl
    rw [decide_eq_true h1, if_pos rfl, if_neg h2, hs, Bool.true_and]
    refine ih k (i + 1) (by omega) (by omega) ?_
    rw [List.take_succ_eq_append_getElem hil, List.all_append, ha, List.all_cons, hs]
    rfl
  ·have hs : stepB L[i] = false := by unfold stepB; rw [decide_eq_false h1, Bool.false_and]
   rw [decide_eq_false h1, if_neg (by simp), hs]; rfl
theorem not_any_not {α : Type} (l : List α) (f : α → Bool) : (!(l.any fun x => !f x)) = l.all f := by
 induction l with
 | nil => rfl
 | cons x l ih => rw [List.any_cons, List.all_cons, Bool.not_or, Bool.not_not, ih]
theorem okV_one (t x : Int) : okV t [x] = decide (0 ≤ x ∧ x < t) := by
 unfold okV offV
 rw [List.any_cons, List.any_nil, Bool.or_false, Bool.not_not]
theorem blockB_eq (t : Int) (L : List S66) (b : S66) : blockB t L b = specB t L b := by
 unfold blockB specB
 rw [not_any_not, not_any_not, Bool.and_assoc]
 congr 1
 unfold endI endsB
 by_cases h1 : b.f2 = 1
 ·rw [if_pos h1, if_pos h1, okV_one, Bool.and_comm]
 rw [if_neg h1, if_neg h1]
 by_cases h2 : b.f2 = 2
 ·rw [if_pos h2, if_pos h2, Bool.and_comm, Bool.and_comm (decide (b.f4.length = 1))]
 rw [if_neg h2, if_neg h2]
 by_cases h3 : b.f2 = 3
 ·rw [if_pos h3, if_pos h3, okV_one, Bool.and_comm]
 rw [if_neg h3, if_neg h3, Bool.and_false]
theorem specGF_f (p : Int) (L : List S66) (hl : L.length ≤ 1048576) (hin : ∀ x ∈ L, hB x) (k : Nat) (hk : 30000000 < k) : spec_GoodFunc.f k p L = some (goodM p L) := by
 obtain ⟨k, rfl⟩ : ∃ m, k = m + 1 := ⟨k - 1, by omega⟩
 unfold spec_GoodFunc.f goodM headB
 have ea : (!(L.any fun b => !blockB (totB p L) L b)) = L.all (specB (totB p L) L) := by
  rw [not_any_not]
  congr 1
  exact funext fun b => blockB_eq _ _ _
 rw [ea, l1In_dec, Option.bind_some]
 by_cases hp : 0 ≤ p ∧ p ≤ 4
 ·rw [decide_eq_true hp, if_pos rfl, l1In_dec, Option.bind_some, Bool.true_and]
  by_cases hn : 1 ≤ (L.length : Int) ∧ (L.length : Int) ≤ 8
  ·rw [decide_eq_true hn, if_pos rfl, if_pos (by omega), Bool.true_and]
   simp only [spec_GoodFunc.j0]
   by_cases h0 : (rd_T66 L 0).f0 = 0
   ·have e0 : ((rd_T66 L 0).f0 != 0) = false := bne_eq_false_iff_eq.2 h0
    have := l0_run p hp L (by omega) hin L.length k 0 (by omega) (by omega) rfl
    rw [List.drop_zero] at this
    rw [e0, if_neg (by simp), decide_eq_true h0, Bool.true_and, show (0 : Int) = ((0 : Nat) : Int) from rfl, this, Bool.and_assoc]
   ·have e0 : ((rd_T66 L 0).f0 != 0) = true := bne_iff_ne.2 h0
    rw [e0, if_pos rfl, decide_eq_false h0]; rfl
  ·rw [decide_eq_false hn, if_neg (by simp), Bool.false_and]
   simp only [spec_GoodFunc.j0]
   rfl
 ·rw [decide_eq_false hp, if_neg (by simp), Bool.false_and]
  simp only [spec_GoodFunc.j0]
  rfl

theorem and63 (x : Int) : IntKind.u64.wrap (Go.bits .and .i64 x 63) = Int.tmod (IntKind.u64.wrap x) 64 := by
 have h : Go.bits .and .i64 x 63 = (x % 18446744073709551616) % 64 := by
  have e : ((BitVec.ofInt 64 x &&& BitVec.ofInt 64 63).toNat : Int) = (x % 18446744073709551616) % 64 := by
   rw [BitVec.toNat_and]
   have : (BitVec.ofInt 64 63).toNat = 2 ^ 6 - 1 := by decide
   rw [this, Nat.and_two_pow_sub_one_eq_mod, BitVec.toNat_ofInt]
   omega
  show IntKind.i64.wrap ((BitVec.ofInt 64 x &&& BitVec.ofInt 64 63).toNat : Int) = _
  rw [e]
  simp only [IntKind.wrap, IntKind.bits, IntKind.signed]
  simp
  omega
 rw [h]
 simp only [IntKind.wrap, IntKind.bits, IntKind.signed]
 simp
 rw [Int.tmod_eq_emod_of_nonneg (by omega)]
 omega

theorem div_m1 (a : Int) : Int.tdiv a (-1) = -a := by simp
theorem do_same (a : Int) (l : List Int) : spec_l1Do.f a l = impl_doOp.f a l := by
 unfold spec_l1Do.f impl_doOp.f
 simp only [spec_l1Bool.f, impl_oneIf.f, and63]
 by_cases h8 : a = 8
 ·subst h8
  simp only [if_neg (show ¬ (8 : Int) = 3 by omega), if_neg (show ¬ (8 : Int) = 4 by omega), if_neg (show ¬ (8 : Int) = 5 by omega), if_neg (show ¬ (8 : Int) = 6 by omega), if_neg (show ¬ (8 : Int) = 7 by omega), if_pos]
  by_cases h1 : 1 < (l.length : Int)
  ·rw [if_pos h1, if_pos h1]
   by_cases h2 : rd l 1 = 0
   ·rw [if_pos h2, if_pos h2]
   ·rw [if_neg h2, if_neg h2, if_pos (by omega), if_pos (by omega)]
    unfold spec_l1Div.f
    by_cases h3 : rd l 1 = -1
    ·rw [if_pos h3, h3, div_m1]; rfl
    ·rw [if_neg h3, if_neg h2]; rfl
  ·rw [if_neg h1, if_neg h1]
 ·simp only [if_neg h8]
theorem do_some (a : Int) (l : List Int) (n : Int) (hn : (l.length : Int) = n) (h : (a = 3 ∧ n = 1) ∨ (a = 11 ∧ n = 3) ∨ (4 ≤ a ∧ a ≤ 10 ∧ n = 2)) : ∃ p, impl_doOp.f a l = some p := by
 rcases h with ⟨rfl, rfl⟩ | ⟨rfl, rfl⟩ | ⟨h4, h10, rfl⟩
 ·unfold impl_doOp.f
  rw [if_pos rfl, if_pos (by omega)]; exact ⟨_, rfl⟩
 ·unfold impl_doOp.f
  simp only [if_neg (show ¬ (11 : Int) = 3 by omega), if_neg (show ¬ (11 : Int) = 4 by omega), if_neg (show ¬ (11 : Int) = 5 by omega), if_neg (show ¬ (11 : Int) = 6 by omega), if_neg (show ¬ (11 : Int) = 7 by omega), if_neg (show ¬ (11 : Int) = 8 by omega), if_neg (show ¬ (11 : Int) = 9 by omega), if_neg (show ¬ (11 : Int) = 10 by omega)]
  rw [if_pos (by omega)]
  split
  ·rw [if_pos (by omega)]; exact ⟨_, rfl⟩
  ·rw [if_pos (by omega)]; exact ⟨_, rfl⟩
 ·have c0 : 0 < (l.length : Int) := by omega
  have c1 : 1 < (l.length : Int) := by omega
  have : a = 4 ∨ a = 5 ∨ a = 6 ∨ a = 7 ∨ a = 8 ∨ a = 9 ∨ a = 10 := by omega
  unfold impl_doOp.f impl_oneIf.f
  simp only [if_pos c0, if_pos c1]
  have t0 : 0 ≤ Int.tmod (IntKind.u64.wrap (rd l 1)) 64 := by rw [← and63]; simp [IntKind.wrap, IntKind.bits, IntKind.signed]; omega
  rw [if_pos t0]
  rcases this with rfl | rfl | rfl | rfl | rfl | rfl | rfl
  ·exact ⟨_, rfl⟩
  ·exact ⟨_, rfl⟩
  ·exact ⟨_, rfl⟩
  ·exact ⟨_, rfl⟩
  ·simp only [if_neg (show ¬ (8 : Int) = 3 by omega), if_neg (show ¬ (8 : Int) = 4 by omega), if_neg (show ¬ (8 : Int) = 5 by omega), if_neg (show ¬ (8 : Int) = 6 by omega), if_neg (show ¬ (8 : Int) = 7 by omega), if_pos]
   split <;> exact ⟨_, rfl⟩
  ·simp only [if_neg (show ¬ (9 : Int) = 3 by omega), if_neg (show ¬ (9 : Int) = 4 by omega), if_neg (show ¬ (9 : Int) = 5 by omega), if_neg (show ¬ (9 : Int) = 6 by omega), if_neg (show ¬ (9 : Int) = 7 by omega), if_neg (show ¬ (9 : Int) = 8 by omega), if_pos]
   split <;> exact ⟨_, rfl⟩
  ·simp only [if_neg (show ¬ (10 : Int) = 3 by omega), if_neg (show ¬ (10 : Int) = 4 by omega), if_neg (show ¬ (10 : Int) = 5 by omega), if_neg (show ¬ (10 : Int) = 6 by omega), if_neg (show ¬ (10 : Int) = 7 by omega), if_neg (show ¬ (10 : Int) = 8 by omega), if_neg (show ¬ (10 : Int) = 9 by omega), if_pos]
   split <;> exact ⟨_, rfl⟩

theorem wB_of {l : List S77} (h : ∀ x ∈ l, RdFnExactRunFunc.ok77 x) : ∀ x ∈ l, wB x := by
 intro x hx
 obtain ⟨-, h1, -, -, h4⟩ := h x hx
 exact ⟨h1.1, fun y hy => (h1.2 y hy).2.2.1, h4.1, fun y hy => (h4.2 y hy).2.1⟩
theorem szw {α : Type} (w : α → Nat) (g : Nat → α → Int → Option Int) (x0 : List α) (L : Nat → Int → Int → Option Int) (rf : Int → α) (h0 : ∀ m i, L 0 m i = none)
  (hL : ∀ k m i, L (k + 1) m i = if i < (x0.length : Int) then (if 0 ≤ i then ((g k (rf i) m).bind fun t => (if t < 0 then (some (-1)) else (L k t (wrap64 (i + 1))))) else none) else some m)
  (hr : ∀ (i : Nat) (h : i < x0.length), rf (i : Int) = x0[i]) (hg : ∀ k, ∀ x ∈ x0, ∀ m t, 0 ≤ m → m ≤ 1048576 → g k x m = some t → 0 ≤ t → t + (w x : Int) ≤ m)
  (k : Nat) (m t : Int) (hl : x0.length ≤ 9223372036854775807) (hm : 0 ≤ m ∧ m ≤ 1048576)
  (h : (if (wrap64 (m - (x0.length : Int))) < 0 then (some (-1)) else L k (wrap64 (m - (x0.length : Int))) 0) = some t) (ht : 0 ≤ t) : t + (x0.length : Int) + ((x0.map w).sum : Nat) ≤ m := by
 have e : wrap64 (m - (x0.length : Int)) = m - (x0.length : Int) := by unfold wrap64; omega
 rw [e] at h
 by_cases c : m - (x0.length : Int) < 0
 ·rw [if_pos c] at h; have := Option.some.inj h; omega
 rw [if_neg c] at h
 have key : ∀ (k i : Nat) (m t : Int), i ≤ x0.length → 0 ≤ m → m ≤ 1048576 → L k m (i : Int) = some t → 0 ≤ t → t + (((x0.drop i).map w).sum : Nat) ≤ m := by
  intro k
  induction k with
  | zero => intro i m t _ _ _ h; rw [h0] at h; cases h
  | succ k ih =>
   intro i m t hi h0 h1 h ht
   rw [hL] at h
   by_cases hil : i < x0.length
   ·rw [if_pos (by omega), if_pos (by omega), hr i hil] at h
    obtain ⟨t1, e1, h⟩ := Option.bind_eq_some_iff.1 h
    by_cases hn : t1 < 0
    ·rw [if_pos hn] at h; have := Option.some.inj h; omega
    ·rw [if_neg hn, w64s i (by omega)] at h
     have a := hg k _ (List.getElem_mem hil) m t1 h0 h1 e1 (by omega)
     have b := ih (i + 1) t1 t (by omega) (by omega) (by omega) h ht
     rw [List.drop_eq_getElem_cons hil, List.map_cons, List.sum_cons]
     omega
   ·rw [if_neg (by omega)] at h
    have := Option.some.inj h
    rw [List.drop_of_length_le (by omega), List.map_nil, List.sum_nil]
    omega
 have := key k 0 _ t (by omega) (by omega) (by omega) (show L k _ ((0 : Nat) : Int) = some t from h) ht
 rw [List.drop_zero] at this
 omega
theorem szIw (x : S112) (hx : wI x) (m t : Int) (h0 : 0 ≤ m) (h1 : m ≤ 1048576) (h : laws_szInst.f x.f0 x.f1 x.f2 m = some t) (ht : 0 ≤ t) : t + (x.f2.length : Int) ≤ m := by
 unfold laws_szInst.f at h
 rw [szI_f _ m h0 h1 hx, Option.bind_some] at h
 by_cases c : m - (x.f2.length : Int) < 0
 ·rw [if_pos c, if_pos (by omega)] at h; have := Option.some.inj h; omega
 ·rw [if_neg c, if_neg (by omega)] at h; have := Option.some.inj h; omega
theorem szJw (x : S114) (hx : wJ x) (m t : Int) (h0 : 0 ≤ m) (h1 : m ≤ 1048576) (h : laws_szJump.f x.f0 x.f1 m = some t) (ht : 0 ≤ t) : t + (x.f1.length : Int) ≤ m := by
 unfold laws_szJump.f at h
 rw [szI_f _ m h0 h1 hx, Option.bind_some] at h
 by_cases c : m - (x.f1.length : Int) < 0
 ·rw [if_pos c, if_pos (by omega)] at h; have := Option.some.inj h; omega
 ·rw [if_neg c, if_neg (by omega)] at h; have := Option.some.inj h; omega
def lwB (x : S77) : Nat := x.f1.length + (x.f1.map fun y => y.f2.length).sum + x.f4.length + (x.f4.map fun y => y.f1.length).sum
theorem szBw (k : Nat) (x : S77) (hx : wB x) (m t : Int) (h0 : 0 ≤ m) (h1 : m ≤ 1048576) (h : laws_szBlock.f k x.f0 x.f1 x.f2 x.f3 x.f4 m = some t) (ht : 0 ≤ t) : t + (lwB x : Int) ≤ m := by
 unfold laws_szBlock.f at h
 obtain ⟨t1, e1, h⟩ := Option.bind_eq_some_iff.1 h
 by_cases n1 : t1 < 0
 ·rw [if_pos n1] at h; have := Option.some.inj h; omega
 rw [if_neg n1] at h
 obtain ⟨t2, e2, h⟩ := Option.bind_eq_some_iff.1 h
 by_cases n2 : t2 < 0
 ·rw [if_pos n2] at h; have := Option.some.inj h; omega
 rw [if_neg n2] at h
 have e3 := Option.some.inj h
 have a := szw (fun y : S112 => y.f2.length) (fun _ y m => laws_szInst.f y.f0 y.f1 y.f2 m) x.f1 (fun k m i => laws_szInstS.l0 k x.f1 m i) (rd_T112 x.f1) (fun _ _ => rfl) (fun _ _ _ => rfl) (fun i hi => rdlI _ i hi) (fun _ y hy => szIw y (hx.2.1 y hy)) k m t1 hx.1 ⟨h0, h1⟩ e1 (by omega)
 have b := szw (fun y : S114 => y.f1.length) (fun _ y m => laws_szJump.f y.f0 y.f1 m) x.f4 (fun k m i => laws_szJumpS.l0 k x.f4 m i) (rd_T114 x.f4) (fun _ _ => rfl) (fun _ _ _ => rfl) (fun i hi => rdlJ _ i hi) (fun _ y hy => szJw y (hx.2.2.2 y hy)) k t1 t2 hx.2.2.1 ⟨by omega, by omega⟩ e2 (by omega)
 unfold lwB
 omega
theorem szFw (k : Nat) (p : Int) (l : List S77) (hl : l.length ≤ 9223372036854775807) (hin : ∀ x ∈ l, wB x) (t : Int) (h : laws_szFunc.f k p l 1048576 = some t) (ht : 0 ≤ t) : l.length + (l.map lwB).sum ≤ 1048576 := by
 unfold laws_szFunc.f at h
 obtain ⟨t1, e1, h⟩ := Option.bind_eq_some_iff.1 h
 by_cases n1 : t1 < 0
 ·rw [if_pos n1] at h; have := Option.some.inj h; omega
 rw [if_neg n1] at h
 have e3 := Option.some.inj h
 have a := szw lwB (fun k x m => laws_szBlock.f k x.f0 x.f1 x.f2 x.f3 x.f4 m) l (fun k m i => laws_szBlockS.l0 k l m i) (rd_T77 l) (fun _ _ => rfl) (fun _ _ _ => rfl) (fun i hi => rdlB _ i hi) (fun k y hy => szBw k y (hin y hy)) k 1048576 t1 hl ⟨by omega, by omega⟩ e1 (by omega)
 omega
theorem mwI_cv (l : List S112) : mwI (l.map cvI) = (l.map fun y => y.f2.length).sum + 2 * l.length := by
 induction l with
 | nil => rfl
 | cons x l ih =>
  unfold mwI at ih ⊢
  simp only [List.map_cons, List.sum_cons, List.length_cons]
  rw [ih]
  show x.f2.length + 2 + _ = _
  omega
theorem mwJ_cv (l : List S114) : mwJ (l.map cvJ) = (l.map fun y => y.f1.length).sum + l.length := by
 induction l with
 | nil => rfl
 | cons x l ih =>
  unfold mwJ at ih ⊢
  simp only [List.map_cons, List.sum_cons, List.length_cons]
  rw [ih]
  show x.f1.length + 1 + _ = _
  omega
theorem mwB_cv (l : List S77) : mwB (l.map cvB) ≤ 3 * (l.length + (l.map lwB).sum) := by
 induction l with
 | nil => exact Nat.zero_le _
 | cons x l ih =>
  unfold mwB at ih ⊢
  simp only [List.map_cons, List.sum_cons, List.length_cons]
  show mwI (x.f1.map cvI) + mwJ (x.f4.map cvJ) + 3 + _ ≤ _
  rw [mwI_cv, mwJ_cv]
  unfold lwB at *
  omega
theorem first_run (L : List S66) (hn : L.length ≤ 8) (hs : L.all stepB = true) (d : Nat) : ∀ (k i : Nat) (t : Int), i + d = L.length → d < k → 0 ≤ t → t + 84 * (d : Int) ≤ 1000000 → spec_l12First.l0 k t L (L.length : Int) (i : Int) = some (totB t (L.drop i)) := by
 induction d with
 | zero =>
  intro k i t hi hk h0 h1
  obtain ⟨k, rfl⟩ : ∃ m, k = m + 1 := ⟨k - 1, by omega⟩
  simp only [spec_l12First.l0]
  rw [if_neg (by omega), List.drop_of_length_le (by omega)]
  rfl
 | succ d ih =>
  intro k i t hi hk h0 h1
  obtain ⟨k, rfl⟩ : ∃ m, k = m + 1 := ⟨k - 1, by omega⟩
  have hil : i < L.length := by omega
  simp only [spec_l12First.l0]
  rw [if_pos (by omega), if_pos (by omega), if_pos (by omega), rdiB _ i hil]
  have hb := List.all_eq_true.1 hs _ (List.getElem_mem hil)
  unfold stepB at hb
  rw [Bool.and_eq_true, decide_eq_true_iff, decide_eq_true_iff] at hb
  have e1 : wrap64 (L[i].f0 + (L[i].f1.length : Int)) = L[i].f0 + (L[i].f1.length : Int) := by unfold wrap64; omega
  have e2 : wrap64 (t + (L[i].f0 + (L[i].f1.length : Int))) = t + sizeB L[i] := by unfold sizeB wrap64; omega
  rw [e1, e2, w64s i (by omega), ih k (i + 1) _ (by omega) (by omega) (by unfold sizeB; omega) (by unfold sizeB; omega), List.drop_eq_getElem_cons hil]
  rfl
theorem doM_some (vals mem : List Int) (x : S69) (h : (x.f2.length : Int) = argsN x.f0) : ∃ r, doM impl_doOp.f vals mem x = some r ∧ r.2.length = mem.length := by
 unfold doM
 by_cases h1 : x.f0 = 1
 ·rw [if_pos h1]; exact ⟨_, rfl, rfl⟩
 rw [if_neg h1]
 by_cases h2 : x.f0 = 12 ∨ x.f0 = 13
 ·rw [if_pos h2]
  split
  ·exact ⟨_, rfl, rfl⟩
  ·split
   ·exact ⟨_, rfl, List.length_set⟩
   ·exact ⟨_, rfl, rfl⟩
 rw [if_neg h2]
 have hn : 0 ≤ argsN x.f0 := by omega
 obtain ⟨q, hq⟩ := do_some x.f0 (tkM vals x.f2) (argsN x.f0) (by rw [tkM_len]; exact h) (by
  unfold argsN at hn ⊢
  rw [if_neg (fun h => h2 (.inl h)), if_neg (fun h => h2 (.inr h))] at hn ⊢
  by_cases c : 1 ≤ x.f0 ∧ x.f0 ≤ 11 ∧ x.f0 ≠ 2
  ·rw [if_pos c, if_neg h1]
   by_cases h3 : x.f0 = 3
   ·rw [if_pos h3]; exact .inl ⟨h3, rfl⟩
   ·rw [if_neg h3]
    by_cases h4 : x.f0 = 11
    ·rw [if_pos h4]; exact .inr (.inl ⟨h4, rfl⟩)
    ·rw [if_neg h4]; exact .inr (.inr ⟨by omega, by omega, rfl⟩)
  ·rw [if_neg c] at hn; omega)
 rw [hq]
 exact ⟨_, rfl, rfl⟩
theorem insM_some (at0 : Int) : ∀ (l : List S69) (i : Nat) (vals mem : List Int), (∀ x ∈ l, (x.f2.length : Int) = argsN x.f0) → ∃ r, insM impl_doOp.f at0 l i vals mem = some r ∧ r.2.2.length = mem.length
 | [], _, _, _, _ => ⟨_, rfl, rfl⟩
 | x :: l, i, vals, mem, h => by
  obtain ⟨⟨o, m1⟩, e, hm⟩ := doM_some vals mem x (h x (List.mem_cons_self ..))
  simp only [insM]
  rw [e, Option.bind_some]
  cases o with
  | none => exact ⟨_, rfl, hm⟩
  | some n =>
   obtain ⟨r, e2, h2⟩ := insM_some at0 l (i + 1) (vals.set (at0 + (i : Int)).toNat n) m1 (fun y hy => h y (List.mem_cons_of_mem _ hy))
   exact ⟨r, e2, h2.trans hm⟩
theorem runM_some {p : Int} {bl : List S66} (hg : goodM p bl = true) (fs : List Int) : ∀ (n k : Nat) (vals mem : List Int), k < bl.length → ∃ R, runM impl_doOp.f fs bl n (k : Int) vals mem = some R ∧ R.2.2.1.length = mem.length
 | 0, _, _, _, _ => ⟨_, rfl, rfl⟩
 | n + 1, k, vals, mem, hk => by
  have G := good_block hg k hk
  obtain ⟨r, e, hm⟩ := insM_some (rd fs (k : Int) + (rd_T66 bl (k : Int)).f0) (rd_T66 bl (k : Int)).f1 0 vals mem (fun x hx => (G.inst x hx).1)
  simp only [runM]
  rw [e, Option.bind_some]
  by_cases h : r.1 = true
  ·rw [if_pos h]
   by_cases h1 : (rd_T66 bl (k : Int)).f2 = 1
   ·rw [if_pos h1]; exact ⟨_, rfl, hm⟩
   ·rw [if_neg h1]
    have hj := (G.jump _ (jumpM_mem G r.2.1 h1)).1
    obtain ⟨k2, hk2⟩ : ∃ k2 : Nat, (jumpM (rd_T66 bl (k : Int)) r.2.1).f0 = (k2 : Int) := ⟨(jumpM (rd_T66 bl (k : Int)) r.2.1).f0.toNat, by omega⟩
    rw [hk2] at hj ⊢
    obtain ⟨R, e2, h2⟩ := runM_some hg fs n k2 (putL r.2.1 (rd fs (k2 : Int)).toNat (tkM r.2.1 (jumpM (rd_T66 bl (k : Int)) r.2.1).f1)) r.2.2 (by omega)
    exact ⟨R, e2, h2.trans hm⟩
  ·rw [if_neg h]; exact ⟨_, rfl, hm⟩
theorem implRF_some (p : Int) (L : List S66) (l1 l2 : List Int) (a : Int) : ∃ q, impl_RunFunc.f p L l1 l2 a = some q ∧ q.1.2.2.1.length ≤ l2.length := by
 unfold impl_RunFunc.f
 by_cases c : goodM p L = true ∧ (l1.length : Int) = p ∧ l2.length = 8 ∧ (0 ≤ a ∧ a ≤ 200)
 ·rw [if_pos c]
  obtain ⟨R, e, h⟩ := runM_some c.1 (firstsB p L) a.toNat 0 (putL (List.replicate (totB p L).toNat 0) 0 l1) l2 (by have := (good_head c.1).2.1; omega)
  have e1 : runM impl_doOp.f (firstsB p L) L a.toNat 0 (putL (List.replicate (totB p L).toNat 0) 0 l1) l2 = some R := e
  rw [e1]
  exact ⟨_, rfl, Nat.le_of_eq h⟩
 ·rw [if_neg c]; exact ⟨_, rfl, Nat.zero_le _⟩
theorem specRF_f (p : Int) (L : List S66) (hl : L.length ≤ 1048576) (hin : ∀ x ∈ L, hB x) (l1 l2 : List Int) (a : Int) (k : Nat) (hk : 30000000 < k) : spec_RunFunc.f k p L l1 l2 a = impl_RunFunc.f p L l1 l2 a := by
 unfold spec_RunFunc.f impl_RunFunc.f
 rw [specGF_f p L hl hin k hk, Option.bind_some, show spec_l1Do.f = impl_doOp.f from funext fun a => funext fun l => do_same a l]
 by_cases c : goodM p L = true ∧ (l1.length : Int) = p ∧ l2.length = 8 ∧ (0 ≤ a ∧ a ≤ 200)
 ·have h0 := c.1
  unfold goodM headB at h0
  simp only [Bool.and_eq_true, decide_eq_true_iff] at h0
  obtain ⟨⟨⟨⟨⟨h1, h2⟩, -⟩, h3⟩, -⟩, -⟩ := h0
  have hc := count_run L (by omega) h3 L.length k 0 p (by omega) (by omega) h1.1 (by omega)
  rw [List.drop_zero] at hc
  have hall : ((List.range L.length).all fun i => decide (spec_l12First.f k p L (i : Int) = some (rd (firstsB p L) (i : Int)))) = true := by
   refine List.all_eq_true.2 fun i hi => decide_eq_true ?_
   have hi := List.mem_range.1 hi
   have hs : (L.take i).all stepB = true := List.all_eq_true.2 fun x hx => List.all_eq_true.1 h3 x (List.mem_of_mem_take hx)
   have hlt : (L.take i).length ≤ 8 := by rw [List.length_take]; omega
   have hf := first_run (L.take i) hlt hs (L.take i).length k 0 p (by omega) (by omega) h1.1 (by omega)
   rw [List.drop_zero] at hf
   unfold spec_l12First.f
   rw [if_pos (by omega), if_pos (by omega), Option.bind_some, Int.toNat_natCast, show (0 : Int) = ((0 : Nat) : Int) from rfl, hf]
   congr 1
   unfold rd
   rw [Int.toNat_natCast, firstsB_rd L p i hi]
  rw [if_pos c, if_pos c, if_pos ⟨c.1, hc, hall⟩]
 ·rw [if_neg c, if_neg c]
theorem FnExactRunFunc : RdFnExactRunFunc.Pure := by
 rintro ⟨p, l⟩ l1 l2 a ⟨hp, hl⟩ hl0 hl1 - hl2 - ha
 simp only at hp hl hl0 ⊢
 obtain ⟨K, hK⟩ : ∃ k : Nat, k = 99999999 := ⟨_, rfl⟩
 refine ⟨K, ?_⟩
 unfold laws_FnExactRunFunc.f
 by_cases c1 : 1048576 < (l1.length : Int)
 ·rw [if_pos c1]
 rw [if_neg c1]
 by_cases c2 : 1048576 < (l2.length : Int)
 ·rw [if_pos c2]
 rw [if_neg c2]
 obtain ⟨t, ht, hh⟩ := szF_f p l hl.1 (wB_of hl.2) K (by omega)
 have hw := szFw K p l hl.1 (wB_of hl.2) t ht
 rw [ht, Option.bind_some]
 by_cases h : t < 0
 ·rw [if_pos h]
 obtain ⟨-, -, h1, h2⟩ := hh.resolve_left h
 have hw := hw (by omega)
 have hm : mwB (l.map cvB) ≤ 100000000 := by have := mwB_cv l; omega
 have hlen : (l.map cvB).length ≤ 1048576 := by rw [List.length_map]; exact h1
 have hto := toF_f p l h1 h2 K (by omega)
 have hin := hgB l h2
 have hs := specRF_f p (l.map cvB) hlen hin l1 l2 a K (by omega)
 have hq := eqF_f p (l.map cvB) hlen hin K (by omega)
 obtain ⟨⟨⟨q0, q1, qm, q3⟩, qb⟩, hi, hqm⟩ := implRF_some p (l.map cvB) l1 l2 a
 rw [hi] at hs
 simp only at hqm
 have he : laws_eqOutcome.f K q0 q1 qm q3 q0 q1 qm q3 = some true := by
  unfold laws_eqOutcome.f
  rw [if_pos rfl, if_pos rfl, laws_eqInt64S_f qm (by omega) K (by omega), Option.bind_some, if_pos rfl, if_pos rfl]
 have hk : laws_markOutcome.f K q0 q1 qm q3 1 = some (((1 + qm.length : Nat) : Int), (List.range qm.length).map fun j : Nat => ((1 : Nat) : Int) + (j : Int)) := by
  unfold laws_markOutcome.f
  rw [laws_markInt64S_f qm (by omega) K (by omega), Option.bind_some]
 have hd : laws_heldOutcome.f K q0 q1 ((List.range qm.length).map fun j : Nat => ((1 : Nat) : Int) + (j : Int)) q3 1 = some ((1 + qm.length : Nat) : Int) := by
  unfold laws_heldOutcome.f
  rw [laws_heldInt64S_f qm.length (by omega) K (by omega), Option.bind_some, if_neg (by omega)]
 generalize l.map cvB = L at *
 rw [if_neg h, hto, Option.bind_some, laws_toInt64S_f l1 (by omega) K (by omega), Option.bind_some, laws_toInt64S_f l2 (by omega) K (by omega), Option.bind_some]
 simp only [hs, hi, hq, Option.bind_some, he, hk, hd, laws_eqInt64S_f l1 (show l1.length ≤ 140737488351232 by omega) K (by omega), laws_eqInt64S_f l2 (show l2.length ≤ 140737488351232 by omega) K (by omega)]
 rw [if_pos ⟨⟨⟨trivial, trivial, trivial, trivial⟩, trivial⟩, ⟨by omega, List.all_eq_true.2 fun x hx => decide_eq_true ⟨by have := (hin x hx).1.1; omega, by have := (hin x hx).2.1; omega⟩, hm⟩, by omega, by omega, by omega, trivial⟩]

end Go.Proofs.Ytpklnipnggocoaa.Pure
