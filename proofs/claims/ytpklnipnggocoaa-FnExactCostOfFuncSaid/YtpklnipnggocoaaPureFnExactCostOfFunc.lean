/- The program's CostOfFunc and the reference's answer alike at every function; no condition. -/
import Derived.Test.YtpklnipnggocoaaPFnExactCostOfFuncx13
import Derived.Test.YtpklnipnggocoaaRdFnExactCostOfFunc
set_option linter.unusedVariables false
set_option linter.unusedSimpArgs false
namespace Go.Proofs.Ytpklnipnggocoaa.Pure
open Go.RowKit Go.Proofs.Ytpklnipnggocoaa.PFnExactCostOfFunc Go.Proofs.YtpklnipnggocoaaW.PrintWords Go.Proofs.YtpklnipnggocoaaW.PrintLast Go.Proofs.YtpklnipnggocoaaW.PrintMore

theorem w64 (x : Int) (h0 : -9223372036854775808 ≤ x) (h1 : x ≤ 9223372036854775807) : wrap64 x = x := by unfold wrap64; omega
theorem w64s (i : Nat) (h : i ≤ 140737488355328) : wrap64 ((i : Int) + 1) = ((i + 1 : Nat) : Int) := by rw [w64 _ (by omega) (by omega)]; omega
theorem rd_nat (l : List Int) (i : Nat) : rd l (i : Int) = l.getD i 0 := by simp [rd]
theorem getD_lt (l : List Int) (i : Nat) (h : i < l.length) : l.getD i 0 = l[i] := by simp [List.getD_eq_getElem?_getD, h]

theorem laws_toIntS_run (x0 : List Int) (hn : x0.length ≤ 140737488351232) (d : Nat) : ∀ (k i : Nat) (x3 : List Int), i + d = x0.length → x3.length = x0.length → (∀ j, j < i → x3[j]? = x0[j]?) → d < k →
    laws_toIntS.l0 k x0 x3 (i : Int) = some x0 := by
  induction d with
  | zero =>
    intro k i x3 hi hl hj hk
    obtain ⟨k, rfl⟩ : ∃ m, k = m + 1 := ⟨k - 1, by omega⟩
    simp only [laws_toIntS.l0]
    rw [if_neg (by omega)]
    congr 1
    apply List.ext_getElem?
    intro j
    by_cases h : j < i
    · exact hj j h
    · rw [List.getElem?_eq_none (by omega), List.getElem?_eq_none (by omega)]
  | succ d ih =>
    intro k i x3 hi hl hj hk
    obtain ⟨k, rfl⟩ : ∃ m, k = m + 1 := ⟨k - 1, by omega⟩
    simp only [laws_toIntS.l0]
    rw [if_pos (by omega), if_pos (by omega), if_pos (by omega), w64s i (by omega)]
    refine ih k (i + 1) _ (by omega) (by simpa using hl) ?_ (by omega)
    intro j hji
    rw [Int.toNat_natCast, rd_nat, List.getElem?_set]
    by_cases h : i = j
    · subst h
      rw [if_pos rfl, if_pos (by omega), getD_lt _ _ (by omega), List.getElem?_eq_getElem (by omega)]
    · rw [if_neg h]
      exact hj j (by omega)
theorem laws_toIntS_f (l : List Int) (hn : l.length ≤ 1048576) (k : Nat) (hk : l.length < k) : laws_toIntS.f k l = some l := by
  unfold laws_toIntS.f
  rw [if_pos (by omega), if_pos (by omega)]
  exact laws_toIntS_run l (by omega) l.length k 0 _ (by omega) (by simp) (fun j hj => by omega) hk

theorem laws_eqIntS_run (x0 : List Int) (hn : x0.length ≤ 140737488351232) (d : Nat) : ∀ (k i : Nat), i + d = x0.length → d < k → laws_eqIntS.l0 k x0 x0 (i : Int) = some true := by
  induction d with
  | zero =>
    intro k i hi hk
    obtain ⟨k, rfl⟩ : ∃ m, k = m + 1 := ⟨k - 1, by omega⟩
    simp only [laws_eqIntS.l0]
    rw [if_neg (by omega)]
  | succ d ih =>
    intro k i hi hk
    obtain ⟨k, rfl⟩ : ∃ m, k = m + 1 := ⟨k - 1, by omega⟩
    simp only [laws_eqIntS.l0]
    rw [if_pos (by omega), if_pos (by omega), if_pos (by omega), if_pos trivial, w64s i (by omega)]
    exact ih k (i + 1) (by omega) (by omega)
theorem laws_eqIntS_f (l : List Int) (hn : l.length ≤ 140737488351232) (k : Nat) (hk : l.length < k) : laws_eqIntS.f k l l = some true := by
  unfold laws_eqIntS.f
  rw [if_pos rfl]
  exact laws_eqIntS_run l hn l.length k 0 (by omega) hk

/-! Code: size, copy, comparison. -/
theorem szI_f (l : List Int) (m : Int) (hm0 : 0 ≤ m) (hm : m ≤ 1048576) (hl : l.length ≤ 9223372036854775807) : laws_szIntS.f l m = some (if m - (l.length : Int) < 0 then -1 else m - (l.length : Int)) := by
  unfold laws_szIntS.f
  have e : wrap64 (m - (l.length : Int)) = m - (l.length : Int) := by unfold wrap64; omega
  rw [e]
  split <;> rfl
def SzOK (o : Option Int) (m : Int) (P : Prop) : Prop := ∃ t, o = some t ∧ (t < 0 ∨ (0 ≤ t ∧ t ≤ m ∧ P))
def cvI (x : S112) : S69 := ⟨x.f0, x.f1, x.f2⟩
def cvJ (x : S114) : S84 := ⟨x.f0, x.f1⟩
def cvB (x : S77) : S66 := ⟨x.f0, x.f1.map cvI, x.f2, x.f3, x.f4.map cvJ⟩
def wI (x : S112) : Prop := x.f2.length ≤ 9223372036854775807
def wJ (x : S114) : Prop := x.f1.length ≤ 9223372036854775807
def wB (x : S77) : Prop := x.f1.length ≤ 9223372036854775807 ∧ (∀ y ∈ x.f1, wI y) ∧ x.f4.length ≤ 9223372036854775807 ∧ ∀ y ∈ x.f4, wJ y
def gI (x : S112) : Prop := x.f2.length ≤ 1048576
def gJ (x : S114) : Prop := x.f1.length ≤ 1048576
def gB (x : S77) : Prop := (x.f1.length ≤ 1048576 ∧ ∀ y ∈ x.f1, gI y) ∧ (x.f4.length ≤ 1048576 ∧ ∀ y ∈ x.f4, gJ y)
def hI (x : S69) : Prop := x.f2.length ≤ 1048576
def hJ (x : S84) : Prop := x.f1.length ≤ 1048576
def hB (x : S66) : Prop := (x.f1.length ≤ 1048576 ∧ ∀ y ∈ x.f1, hI y) ∧ (x.f4.length ≤ 1048576 ∧ ∀ y ∈ x.f4, hJ y)
theorem hgI (l : List S112) (h : ∀ y ∈ l, gI y) : ∀ y ∈ l.map cvI, hI y := by intro y hy; obtain ⟨x, hx, rfl⟩ := List.mem_map.1 hy; exact h x hx
theorem hgJ (l : List S114) (h : ∀ y ∈ l, gJ y) : ∀ y ∈ l.map cvJ, hJ y := by intro y hy; obtain ⟨x, hx, rfl⟩ := List.mem_map.1 hy; exact h x hx
theorem hgB (l : List S77) (h : ∀ y ∈ l, gB y) : ∀ y ∈ l.map cvB, hB y := by
  intro y hy
  obtain ⟨x, hx, rfl⟩ := List.mem_map.1 hy
  obtain ⟨⟨h1, h2⟩, h3, h4⟩ := h x hx
  exact ⟨⟨by show (x.f1.map cvI).length ≤ _; rw [List.length_map]; exact h1, hgI _ h2⟩, by show (x.f4.map cvJ).length ≤ _; rw [List.length_map]; exact h3, hgJ _ h4⟩
theorem szIe (x : S112) (h : wI x) (m : Int) (h0 : 0 ≤ m) (h1 : m ≤ 1048576) (k : Nat) (hk : 0 < k) : SzOK (laws_szInst.f x.f0 x.f1 x.f2 m) m (gI x) := by
  unfold laws_szInst.f
  have h' : x.f2.length ≤ 9223372036854775807 := h
  rw [szI_f _ m h0 h1 h', Option.bind_some]
  by_cases hneg : m - (x.f2.length : Int) < 0
  · rw [if_pos hneg, if_pos (by omega)]; exact ⟨_, rfl, .inl (by omega)⟩
  · rw [if_neg hneg, if_neg (by omega)]; exact ⟨_, rfl, .inr ⟨by omega, by omega, (show x.f2.length ≤ 1048576 by omega)⟩⟩
theorem toIe (x : S112) (h : gI x) (k : Nat) (hk : 1048577 < k) : laws_toInst.f k x.f0 x.f1 x.f2 = some (x.f0, x.f1, x.f2) := by
  unfold laws_toInst.f
  rw [laws_toIntS_f _ h k (by have : x.f2.length ≤ 1048576 := h; omega)]
  rfl
theorem eqIe (x : S69) (h : hI x) (k : Nat) (hk : 1048577 < k) : laws_eqInst.f k x.f0 x.f1 x.f2 x.f0 x.f1 x.f2 = some true := by
  have h' : x.f2.length ≤ 1048576 := h
  unfold laws_eqInst.f
  rw [if_pos rfl, if_pos rfl, laws_eqIntS_f _ (by omega) k (by omega), Option.bind_some, if_pos rfl]
theorem rdlI (l : List S112) (i : Nat) (h : i < l.length) : rd_T112 l (i : Int) = l[i] := by unfold rd_T112; rw [Int.toNat_natCast, List.getD_eq_getElem?_getD, List.getElem?_eq_getElem h]; rfl
theorem rdiI (l : List S69) (i : Nat) (h : i < l.length) : rd_T69 l (i : Int) = l[i] := by unfold rd_T69; rw [Int.toNat_natCast, List.getD_eq_getElem?_getD, List.getElem?_eq_getElem h]; rfl
theorem szI_run (x0 : List S112) (hn : x0.length ≤ 1048576) (hin : ∀ x ∈ x0, wI x) (d : Nat) : ∀ (k i : Nat) (m : Int), i + d = x0.length → d + 0 < k → 0 ≤ m → m ≤ 1048576 →
    SzOK (laws_szInstS.l0 k x0 m (i : Int)) m (∀ x ∈ x0.drop i, gI x) := by
  induction d with
  | zero =>
    intro k i m hi hk h0 h1
    obtain ⟨k, rfl⟩ : ∃ j, k = j + 1 := ⟨k - 1, by omega⟩
    simp only [laws_szInstS.l0]
    rw [if_neg (by omega)]
    exact ⟨_, rfl, .inr ⟨h0, Int.le_refl _, by rw [List.drop_of_length_le (by omega)]; intro x hx; cases hx⟩⟩
  | succ d ih =>
    intro k i m hi hk h0 h1
    obtain ⟨k, rfl⟩ : ∃ j, k = j + 1 := ⟨k - 1, by omega⟩
    have hil : i < x0.length := by omega
    simp only [laws_szInstS.l0]
    rw [if_pos (by omega), if_pos (by omega), rdlI _ i hil]
    obtain ⟨t, ht, hh⟩ := szIe x0[i] (hin _ (List.getElem_mem hil)) m h0 h1 k (by omega)
    rw [ht, Option.bind_some]
    by_cases hneg : t < 0
    · rw [if_pos hneg]; exact ⟨_, rfl, .inl (by omega)⟩
    · obtain ⟨ha, hb, hc⟩ := hh.resolve_left hneg
      rw [if_neg hneg, w64s i (by omega)]
      obtain ⟨t', ht', hh'⟩ := ih k (i + 1) t (by omega) (by omega) ha (by omega)
      refine ⟨t', ht', hh'.imp id fun h => ⟨h.1, by have := h.2.1; omega, ?_⟩⟩
      intro x hx
      rw [List.drop_eq_getElem_cons hil] at hx
      rcases List.mem_cons.1 hx with rfl | hx
      · exact hc
      · exact h.2.2 x hx
theorem szI_f' (l : List S112) (m : Int) (h0 : 0 ≤ m) (hm : m ≤ 1048576) (hl : l.length ≤ 9223372036854775807) (hin : ∀ x ∈ l, wI x) (k : Nat) (hk : 1048576 + 0 < k) : SzOK (laws_szInstS.f k l m) m (l.length ≤ 1048576 ∧ ∀ x ∈ l, gI x) := by
  unfold laws_szInstS.f
  have e : wrap64 (m - (l.length : Int)) = m - (l.length : Int) := by unfold wrap64; omega
  rw [e]
  by_cases h : m - (l.length : Int) < 0
  · rw [if_pos h]; exact ⟨_, rfl, .inl (by omega)⟩
  · rw [if_neg h]
    obtain ⟨t, ht, hh⟩ := szI_run l (by omega) hin l.length k 0 (m - (l.length : Int)) (by omega) (by omega) (by omega) (by omega)
    refine ⟨t, ht, hh.imp id fun h => ⟨h.1, by have := h.2.1; omega, by omega, fun x hx => h.2.2 x (by rw [List.drop_zero]; exact hx)⟩⟩
theorem toI_run (x0 : List S112) (hn : x0.length ≤ 1048576) (hin : ∀ x ∈ x0, gI x) (d : Nat) : ∀ (k i : Nat) (x3 : List S69), i + d = x0.length → x3.length = x0.length → (∀ j, j < i → x3[j]? = (x0.map cvI)[j]?) → d + 1048577 < k →
    laws_toInstS.l0 k x0 x3 (i : Int) = some (x0.map cvI) := by
  induction d with
  | zero =>
    intro k i x3 hi hl hj hk
    obtain ⟨k, rfl⟩ : ∃ m, k = m + 1 := ⟨k - 1, by omega⟩
    simp only [laws_toInstS.l0]
    rw [if_neg (by omega)]
    congr 1
    apply List.ext_getElem?
    intro j
    by_cases h : j < i
    · exact hj j h
    · rw [List.getElem?_eq_none (by omega), List.getElem?_eq_none (by rw [List.length_map]; omega)]
  | succ d ih =>
    intro k i x3 hi hl hj hk
    obtain ⟨k, rfl⟩ : ∃ m, k = m + 1 := ⟨k - 1, by omega⟩
    have hil : i < x0.length := by omega
    simp only [laws_toInstS.l0]
    rw [if_pos (by omega), if_pos (by omega), rdlI _ i hil, toIe x0[i] (hin _ (List.getElem_mem hil)) k (by omega), Option.bind_some, if_pos (by omega), w64s i (by omega)]
    refine ih k (i + 1) _ (by omega) (by simpa using hl) ?_ (by omega)
    intro j hji
    rw [Int.toNat_natCast, List.getElem?_set]
    by_cases h : i = j
    · subst h
      rw [if_pos rfl, if_pos (by omega), List.getElem?_map, List.getElem?_eq_getElem hil]
      rfl
    · rw [if_neg h]
      exact hj j (by omega)
theorem toI_f (l : List S112) (hn : l.length ≤ 1048576) (hin : ∀ x ∈ l, gI x) (k : Nat) (hk : 1048576 + 1048577 < k) : laws_toInstS.f k l = some (l.map cvI) := by
  unfold laws_toInstS.f
  rw [if_pos (by omega), if_pos (by omega)]
  exact toI_run l hn hin l.length k 0 _ (by omega) (by simp) (fun j hj => by omega) (by omega)
theorem eqI_run (x0 : List S69) (hn : x0.length ≤ 1048576) (hin : ∀ x ∈ x0, hI x) (d : Nat) : ∀ (k i : Nat), i + d = x0.length → d + 1048577 < k → laws_eqInstS.l0 k x0 x0 (i : Int) = some true := by
  induction d with
  | zero =>
    intro k i hi hk
    obtain ⟨k, rfl⟩ : ∃ m, k = m + 1 := ⟨k - 1, by omega⟩
    simp only [laws_eqInstS.l0]
    rw [if_neg (by omega)]
  | succ d ih =>
    intro k i hi hk
    obtain ⟨k, rfl⟩ : ∃ m, k = m + 1 := ⟨k - 1, by omega⟩
    have hil : i < x0.length := by omega
    simp only [laws_eqInstS.l0]
    rw [if_pos (by omega), if_pos (by omega), if_pos (by omega), rdiI _ i hil, eqIe x0[i] (hin _ (List.getElem_mem hil)) k (by omega), Option.bind_some, if_pos rfl, w64s i (by omega)]
    exact ih k (i + 1) (by omega) (by omega)
theorem eqI_f (l : List S69) (hn : l.length ≤ 1048576) (hin : ∀ x ∈ l, hI x) (k : Nat) (hk : 1048576 + 1048577 < k) : laws_eqInstS.f k l l = some true := by
  unfold laws_eqInstS.f
  rw [if_pos rfl]
  exact eqI_run l hn hin l.length k 0 (by omega) (by omega)
theorem szJe (x : S114) (h : wJ x) (m : Int) (h0 : 0 ≤ m) (h1 : m ≤ 1048576) (k : Nat) (hk : 0 < k) : SzOK (laws_szJump.f x.f0 x.f1 m) m (gJ x) := by
  unfold laws_szJump.f
  have h' : x.f1.length ≤ 9223372036854775807 := h
  rw [szI_f _ m h0 h1 h', Option.bind_some]
  by_cases hneg : m - (x.f1.length : Int) < 0
  · rw [if_pos hneg, if_pos (by omega)]; exact ⟨_, rfl, .inl (by omega)⟩
  · rw [if_neg hneg, if_neg (by omega)]; exact ⟨_, rfl, .inr ⟨by omega, by omega, (show x.f1.length ≤ 1048576 by omega)⟩⟩
theorem toJe (x : S114) (h : gJ x) (k : Nat) (hk : 1048577 < k) : laws_toJump.f k x.f0 x.f1 = some (x.f0, x.f1) := by
  unfold laws_toJump.f
  rw [laws_toIntS_f _ h k (by have : x.f1.length ≤ 1048576 := h; omega)]
  rfl
theorem eqJe (x : S84) (h : hJ x) (k : Nat) (hk : 1048577 < k) : laws_eqJump.f k x.f0 x.f1 x.f0 x.f1 = some true := by
  have h' : x.f1.length ≤ 1048576 := h
  unfold laws_eqJump.f
  rw [if_pos rfl, laws_eqIntS_f _ (by omega) k (by omega), Option.bind_some, if_pos rfl]
theorem rdlJ (l : List S114) (i : Nat) (h : i < l.length) : rd_T114 l (i : Int) = l[i] := by unfold rd_T114; rw [Int.toNat_natCast, List.getD_eq_getElem?_getD, List.getElem?_eq_getElem h]; rfl
theorem rdiJ (l : List S84) (i : Nat) (h : i < l.length) : rd_T84 l (i : Int) = l[i] := by unfold rd_T84; rw [Int.toNat_natCast, List.getD_eq_getElem?_getD, List.getElem?_eq_getElem h]; rfl
theorem szJ_run (x0 : List S114) (hn : x0.length ≤ 1048576) (hin : ∀ x ∈ x0, wJ x) (d : Nat) : ∀ (k i : Nat) (m : Int), i + d = x0.length → d + 0 < k → 0 ≤ m → m ≤ 1048576 →
    SzOK (laws_szJumpS.l0 k x0 m (i : Int)) m (∀ x ∈ x0.drop i, gJ x) := by
  induction d with
  | zero =>
    intro k i m hi hk h0 h1
    obtain ⟨k, rfl⟩ : ∃ j, k = j + 1 := ⟨k - 1, by omega⟩
    simp only [laws_szJumpS.l0]
    rw [if_neg (by omega)]
    exact ⟨_, rfl, .inr ⟨h0, Int.le_refl _, by rw [List.drop_of_length_le (by omega)]; intro x hx; cases hx⟩⟩
  | succ d ih =>
    intro k i m hi hk h0 h1
    obtain ⟨k, rfl⟩ : ∃ j, k = j + 1 := ⟨k - 1, by omega⟩
    have hil : i < x0.length := by omega
    simp only [laws_szJumpS.l0]
    rw [if_pos (by omega), if_pos (by omega), rdlJ _ i hil]
    obtain ⟨t, ht, hh⟩ := szJe x0[i] (hin _ (List.getElem_mem hil)) m h0 h1 k (by omega)
    rw [ht, Option.bind_some]
    by_cases hneg : t < 0
    · rw [if_pos hneg]; exact ⟨_, rfl, .inl (by omega)⟩
    · obtain ⟨ha, hb, hc⟩ := hh.resolve_left hneg
      rw [if_neg hneg, w64s i (by omega)]
      obtain ⟨t', ht', hh'⟩ := ih k (i + 1) t (by omega) (by omega) ha (by omega)
      refine ⟨t', ht', hh'.imp id fun h => ⟨h.1, by have := h.2.1; omega, ?_⟩⟩
      intro x hx
      rw [List.drop_eq_getElem_cons hil] at hx
      rcases List.mem_cons.1 hx with rfl | hx
      · exact hc
      · exact h.2.2 x hx
theorem szJ_f (l : List S114) (m : Int) (h0 : 0 ≤ m) (hm : m ≤ 1048576) (hl : l.length ≤ 9223372036854775807) (hin : ∀ x ∈ l, wJ x) (k : Nat) (hk : 1048576 + 0 < k) : SzOK (laws_szJumpS.f k l m) m (l.length ≤ 1048576 ∧ ∀ x ∈ l, gJ x) := by
  unfold laws_szJumpS.f
  have e : wrap64 (m - (l.length : Int)) = m - (l.length : Int) := by unfold wrap64; omega
  rw [e]
  by_cases h : m - (l.length : Int) < 0
  · rw [if_pos h]; exact ⟨_, rfl, .inl (by omega)⟩
  · rw [if_neg h]
    obtain ⟨t, ht, hh⟩ := szJ_run l (by omega) hin l.length k 0 (m - (l.length : Int)) (by omega) (by omega) (by omega) (by omega)
    refine ⟨t, ht, hh.imp id fun h => ⟨h.1, by have := h.2.1; omega, by omega, fun x hx => h.2.2 x (by rw [List.drop_zero]; exact hx)⟩⟩
theorem toJ_run (x0 : List S114) (hn : x0.length ≤ 1048576) (hin : ∀ x ∈ x0, gJ x) (d : Nat) : ∀ (k i : Nat) (x3 : List S84), i + d = x0.length → x3.length = x0.length → (∀ j, j < i → x3[j]? = (x0.map cvJ)[j]?) → d + 1048577 < k →
    laws_toJumpS.l0 k x0 x3 (i : Int) = some (x0.map cvJ) := by
  induction d with
  | zero =>
    intro k i x3 hi hl hj hk
    obtain ⟨k, rfl⟩ : ∃ m, k = m + 1 := ⟨k - 1, by omega⟩
    simp only [laws_toJumpS.l0]
    rw [if_neg (by omega)]
    congr 1
    apply List.ext_getElem?
    intro j
    by_cases h : j < i
    · exact hj j h
    · rw [List.getElem?_eq_none (by omega), List.getElem?_eq_none (by rw [List.length_map]; omega)]
  | succ d ih =>
    intro k i x3 hi hl hj hk
    obtain ⟨k, rfl⟩ : ∃ m, k = m + 1 := ⟨k - 1, by omega⟩
    have hil : i < x0.length := by omega
    simp only [laws_toJumpS.l0]
    rw [if_pos (by omega), if_pos (by omega), rdlJ _ i hil, toJe x0[i] (hin _ (List.getElem_mem hil)) k (by omega), Option.bind_some, if_pos (by omega), w64s i (by omega)]
    refine ih k (i + 1) _ (by omega) (by simpa using hl) ?_ (by omega)
    intro j hji
    rw [Int.toNat_natCast, List.getElem?_set]
    by_cases h : i = j
    · subst h
      rw [if_pos rfl, if_pos (by omega), List.getElem?_map, List.getElem?_eq_getElem hil]
      rfl
    · rw [if_neg h]
      exact hj j (by omega)
theorem toJ_f (l : List S114) (hn : l.length ≤ 1048576) (hin : ∀ x ∈ l, gJ x) (k : Nat) (hk : 1048576 + 1048577 < k) : laws_toJumpS.f k l = some (l.map cvJ) := by
  unfold laws_toJumpS.f
  rw [if_pos (by omega), if_pos (by omega)]
  exact toJ_run l hn hin l.length k 0 _ (by omega) (by simp) (fun j hj => by omega) (by omega)
theorem eqJ_run (x0 : List S84) (hn : x0.length ≤ 1048576) (hin : ∀ x ∈ x0, hJ x) (d : Nat) : ∀ (k i : Nat), i + d = x0.length → d + 1048577 < k → laws_eqJumpS.l0 k x0 x0 (i : Int) = some true := by
  induction d with
  | zero =>
    intro k i hi hk
    obtain ⟨k, rfl⟩ : ∃ m, k = m + 1 := ⟨k - 1, by omega⟩
    simp only [laws_eqJumpS.l0]
    rw [if_neg (by omega)]
  | succ d ih =>
    intro k i hi hk
    obtain ⟨k, rfl⟩ : ∃ m, k = m + 1 := ⟨k - 1, by omega⟩
    have hil : i < x0.length := by omega
    simp only [laws_eqJumpS.l0]
    rw [if_pos (by omega), if_pos (by omega), if_pos (by omega), rdiJ _ i hil, eqJe x0[i] (hin _ (List.getElem_mem hil)) k (by omega), Option.bind_some, if_pos rfl, w64s i (by omega)]
    exact ih k (i + 1) (by omega) (by omega)
theorem eqJ_f (l : List S84) (hn : l.length ≤ 1048576) (hin : ∀ x ∈ l, hJ x) (k : Nat) (hk : 1048576 + 1048577 < k) : laws_eqJumpS.f k l l = some true := by
  unfold laws_eqJumpS.f
  rw [if_pos rfl]
  exact eqJ_run l hn hin l.length k 0 (by omega) (by omega)
theorem szBe (x : S77) (h : wB x) (m : Int) (h0 : 0 ≤ m) (h1 : m ≤ 1048576) (k : Nat) (hk : 1048577 < k) : SzOK (laws_szBlock.f k x.f0 x.f1 x.f2 x.f3 x.f4 m) m (gB x) := by
  unfold laws_szBlock.f
  obtain ⟨t, ht, hh⟩ := szI_f' x.f1 m h0 h1 h.1 h.2.1 k (by omega)
  rw [ht, Option.bind_some]
  by_cases hneg : t < 0
  · rw [if_pos hneg]; exact ⟨_, rfl, .inl (by omega)⟩
  · obtain ⟨ha, hb, hc⟩ := hh.resolve_left hneg
    rw [if_neg hneg]
    obtain ⟨t', ht', hh'⟩ := szJ_f x.f4 t ha (by omega) h.2.2.1 h.2.2.2 k (by omega)
    rw [ht', Option.bind_some]
    by_cases hneg' : t' < 0
    · rw [if_pos hneg']; exact ⟨_, rfl, .inl (by omega)⟩
    · obtain ⟨ha', hb', hc'⟩ := hh'.resolve_left hneg'
      rw [if_neg hneg']
      exact ⟨_, rfl, .inr ⟨ha', by omega, hc, hc'⟩⟩
theorem toBe (x : S77) (h : gB x) (k : Nat) (hk : 2097160 < k) : laws_toBlock.f k x.f0 x.f1 x.f2 x.f3 x.f4 = some (x.f0, x.f1.map cvI, x.f2, x.f3, x.f4.map cvJ) := by
  unfold laws_toBlock.f
  rw [toI_f x.f1 h.1.1 h.1.2 k (by omega), Option.bind_some, toJ_f x.f4 h.2.1 h.2.2 k (by omega), Option.bind_some]
theorem eqBe (x : S66) (h : hB x) (k : Nat) (hk : 2097160 < k) : laws_eqBlock.f k x.f0 x.f1 x.f2 x.f3 x.f4 x.f0 x.f1 x.f2 x.f3 x.f4 = some true := by
  unfold laws_eqBlock.f
  rw [if_pos rfl, eqI_f x.f1 h.1.1 h.1.2 k (by omega), Option.bind_some, if_pos rfl, if_pos rfl, if_pos rfl, eqJ_f x.f4 h.2.1 h.2.2 k (by omega), Option.bind_some, if_pos rfl]
theorem rdlB (l : List S77) (i : Nat) (h : i < l.length) : rd_T77 l (i : Int) = l[i] := by unfold rd_T77; rw [Int.toNat_natCast, List.getD_eq_getElem?_getD, List.getElem?_eq_getElem h]; rfl
theorem rdiB (l : List S66) (i : Nat) (h : i < l.length) : rd_T66 l (i : Int) = l[i] := by unfold rd_T66; rw [Int.toNat_natCast, List.getD_eq_getElem?_getD, List.getElem?_eq_getElem h]; rfl
theorem szB_run (x0 : List S77) (hn : x0.length ≤ 1048576) (hin : ∀ x ∈ x0, wB x) (d : Nat) : ∀ (k i : Nat) (m : Int), i + d = x0.length → d + 1048577 < k → 0 ≤ m → m ≤ 1048576 →
    SzOK (laws_szBlockS.l0 k x0 m (i : Int)) m (∀ x ∈ x0.drop i, gB x) := by
  induction d with
  | zero =>
    intro k i m hi hk h0 h1
    obtain ⟨k, rfl⟩ : ∃ j, k = j + 1 := ⟨k - 1, by omega⟩
    simp only [laws_szBlockS.l0]
    rw [if_neg (by omega)]
    exact ⟨_, rfl, .inr ⟨h0, Int.le_refl _, by rw [List.drop_of_length_le (by omega)]; intro x hx; cases hx⟩⟩
  | succ d ih =>
    intro k i m hi hk h0 h1
    obtain ⟨k, rfl⟩ : ∃ j, k = j + 1 := ⟨k - 1, by omega⟩
    have hil : i < x0.length := by omega
    simp only [laws_szBlockS.l0]
    rw [if_pos (by omega), if_pos (by omega), rdlB _ i hil]
    obtain ⟨t, ht, hh⟩ := szBe x0[i] (hin _ (List.getElem_mem hil)) m h0 h1 k (by omega)
    rw [ht, Option.bind_some]
    by_cases hneg : t < 0
    · rw [if_pos hneg]; exact ⟨_, rfl, .inl (by omega)⟩
    · obtain ⟨ha, hb, hc⟩ := hh.resolve_left hneg
      rw [if_neg hneg, w64s i (by omega)]
      obtain ⟨t', ht', hh'⟩ := ih k (i + 1) t (by omega) (by omega) ha (by omega)
      refine ⟨t', ht', hh'.imp id fun h => ⟨h.1, by have := h.2.1; omega, ?_⟩⟩
      intro x hx
      rw [List.drop_eq_getElem_cons hil] at hx
      rcases List.mem_cons.1 hx with rfl | hx
      · exact hc
      · exact h.2.2 x hx
theorem szB_f (l : List S77) (m : Int) (h0 : 0 ≤ m) (hm : m ≤ 1048576) (hl : l.length ≤ 9223372036854775807) (hin : ∀ x ∈ l, wB x) (k : Nat) (hk : 1048576 + 1048577 < k) : SzOK (laws_szBlockS.f k l m) m (l.length ≤ 1048576 ∧ ∀ x ∈ l, gB x) := by
  unfold laws_szBlockS.f
  have e : wrap64 (m - (l.length : Int)) = m - (l.length : Int) := by unfold wrap64; omega
  rw [e]
  by_cases h : m - (l.length : Int) < 0
  · rw [if_pos h]; exact ⟨_, rfl, .inl (by omega)⟩
  · rw [if_neg h]
    obtain ⟨t, ht, hh⟩ := szB_run l (by omega) hin l.length k 0 (m - (l.length : Int)) (by omega) (by omega) (by omega) (by omega)
    refine ⟨t, ht, hh.imp id fun h => ⟨h.1, by have := h.2.1; omega, by omega, fun x hx => h.2.2 x (by rw [List.drop_zero]; exact hx)⟩⟩
theorem toB_run (x0 : List S77) (hn : x0.length ≤ 1048576) (hin : ∀ x ∈ x0, gB x) (d : Nat) : ∀ (k i : Nat) (x3 : List S66), i + d = x0.length → x3.length = x0.length → (∀ j, j < i → x3[j]? = (x0.map cvB)[j]?) → d + 2097160 < k →
    laws_toBlockS.l0 k x0 x3 (i : Int) = some (x0.map cvB) := by
  induction d with
  | zero =>
    intro k i x3 hi hl hj hk
    obtain ⟨k, rfl⟩ : ∃ m, k = m + 1 := ⟨k - 1, by omega⟩
    simp only [laws_toBlockS.l0]
    rw [if_neg (by omega)]
    congr 1
    apply List.ext_getElem?
    intro j
    by_cases h : j < i
    · exact hj j h
    · rw [List.getElem?_eq_none (by omega), List.getElem?_eq_none (by rw [List.length_map]; omega)]
  | succ d ih =>
    intro k i x3 hi hl hj hk
    obtain ⟨k, rfl⟩ : ∃ m, k = m + 1 := ⟨k - 1, by omega⟩
    have hil : i < x0.length := by omega
    simp only [laws_toBlockS.l0]
    rw [if_pos (by omega), if_pos (by omega), rdlB _ i hil, toBe x0[i] (hin _ (List.getElem_mem hil)) k (by omega), Option.bind_some, if_pos (by omega), w64s i (by omega)]
    refine ih k (i + 1) _ (by omega) (by simpa using hl) ?_ (by omega)
    intro j hji
    rw [Int.toNat_natCast, List.getElem?_set]
    by_cases h : i = j
    · subst h
      rw [if_pos rfl, if_pos (by omega), List.getElem?_map, List.getElem?_eq_getElem hil]
      rfl
    · rw [if_neg h]
      exact hj j (by omega)
theorem toB_f (l : List S77) (hn : l.length ≤ 1048576) (hin : ∀ x ∈ l, gB x) (k : Nat) (hk : 1048576 + 2097160 < k) : laws_toBlockS.f k l = some (l.map cvB) := by
  unfold laws_toBlockS.f
  rw [if_pos (by omega), if_pos (by omega)]
  exact toB_run l hn hin l.length k 0 _ (by omega) (by simp) (fun j hj => by omega) (by omega)
theorem eqB_run (x0 : List S66) (hn : x0.length ≤ 1048576) (hin : ∀ x ∈ x0, hB x) (d : Nat) : ∀ (k i : Nat), i + d = x0.length → d + 2097160 < k → laws_eqBlockS.l0 k x0 x0 (i : Int) = some true := by
  induction d with
  | zero =>
    intro k i hi hk
    obtain ⟨k, rfl⟩ : ∃ m, k = m + 1 := ⟨k - 1, by omega⟩
    simp only [laws_eqBlockS.l0]
    rw [if_neg (by omega)]
  | succ d ih =>
    intro k i hi hk
    obtain ⟨k, rfl⟩ : ∃ m, k = m + 1 := ⟨k - 1, by omega⟩
    have hil : i < x0.length := by omega
    simp only [laws_eqBlockS.l0]
    rw [if_pos (by omega), if_pos (by omega), if_pos (by omega), rdiB _ i hil, eqBe x0[i] (hin _ (List.getElem_mem hil)) k (by omega), Option.bind_some, if_pos rfl, w64s i (by omega)]
    exact ih k (i + 1) (by omega) (by omega)
theorem eqB_f (l : List S66) (hn : l.length ≤ 1048576) (hin : ∀ x ∈ l, hB x) (k : Nat) (hk : 1048576 + 2097160 < k) : laws_eqBlockS.f k l l = some true := by
  unfold laws_eqBlockS.f
  rw [if_pos rfl]
  exact eqB_run l hn hin l.length k 0 (by omega) (by omega)
theorem szF_f (p : Int) (l : List S77) (hl : l.length ≤ 9223372036854775807) (hin : ∀ x ∈ l, wB x) (k : Nat) (hk : 2097160 < k) : SzOK (laws_szFunc.f k p l 1048576) 1048576 (l.length ≤ 1048576 ∧ ∀ x ∈ l, gB x) := by
  unfold laws_szFunc.f
  obtain ⟨t, ht, hh⟩ := szB_f l 1048576 (by omega) (by omega) hl hin k (by omega)
  rw [ht, Option.bind_some]
  by_cases hneg : t < 0
  · rw [if_pos hneg]; exact ⟨_, rfl, .inl (by omega)⟩
  · rw [if_neg hneg]; exact ⟨_, rfl, hh⟩
theorem toF_f (p : Int) (l : List S77) (hn : l.length ≤ 1048576) (hin : ∀ x ∈ l, gB x) (k : Nat) (hk : 4194320 < k) : laws_toFunc.f k p l = some (p, l.map cvB) := by
  unfold laws_toFunc.f
  rw [toB_f l hn hin k (by omega), Option.bind_some]
theorem eqF_f (p : Int) (l : List S66) (hn : l.length ≤ 1048576) (hin : ∀ x ∈ l, hB x) (k : Nat) (hk : 4194320 < k) : laws_eqFunc.f k p l p l = some true := by
  unfold laws_eqFunc.f
  rw [if_pos rfl, eqB_f l hn hin k (by omega), Option.bind_some, if_pos rfl]

/-! Code: what the reference's GoodFunc answers, in the program's words. -/
theorem l1In_dec (x a b : Int) : spec_l1In.f x a b = some (decide (a ≤ x ∧ x ≤ b)) := by
  unfold spec_l1In.f
  by_cases h : x ≥ a
  · rw [if_pos h]; congr 1; rw [decide_eq_decide]; omega
  · rw [if_neg h, decide_eq_false (by omega)]
theorem l12Arity_f (k : Nat) (hk : 0 < k) (op : Int) : spec_l12Arity.f k op = some (argsN op) := by
  obtain ⟨k, rfl⟩ : ∃ m, k = m + 1 := ⟨k - 1, by omega⟩
  unfold spec_l12Arity.f argsN
  by_cases h12 : op = 12
  · rw [if_pos h12, if_pos h12]
  rw [if_neg h12, if_neg h12]
  by_cases h13 : op = 13
  · rw [if_pos h13, if_pos h13]
  rw [if_neg h13, if_neg h13]
  by_cases h2 : op = 2
  · rw [if_pos h2, if_neg (by omega)]
  rw [if_neg h2]
  unfold spec_l1Arity.f
  by_cases h1 : op = 1
  · subst h1; rfl
  · rw [if_neg h1]
    simp only [spec_l1Arity.j0]
    rw [if_neg (by simpa using h2)]
    by_cases h3 : op = 3
    · subst h3; rfl
    · rw [if_neg h3, if_neg h1, if_neg h3]
      by_cases h4 : op = 11
      · subst h4; rfl
      · rw [if_neg h4, if_neg h4]
        unfold spec_l1In.f
        by_cases h5 : op ≥ 4
        · by_cases h6 : op ≤ 10
          · rw [if_pos h5, Option.bind_some, decide_eq_true h6, if_pos rfl, if_pos (by omega)]; rfl
          · rw [if_pos h5, Option.bind_some, decide_eq_false h6, if_neg (by simp), if_neg (by omega)]; rfl
        · rw [if_neg h5, Option.bind_some, if_neg (by simp), if_neg (by omega)]; rfl
theorem count_run (L : List S66) (hn : L.length ≤ 8) (hs : L.all stepB = true) (d : Nat) : ∀ (k i : Nat) (t : Int), i + d = L.length → d < k → 0 ≤ t → t + 84 * (d : Int) ≤ 1000000 → spec_l12Count.l0 k t L (L.length : Int) (i : Int) = some (totB t (L.drop i)) := by
  induction d with
  | zero =>
    intro k i t hi hk h0 h1
    obtain ⟨k, rfl⟩ : ∃ m, k = m + 1 := ⟨k - 1, by omega⟩
    simp only [spec_l12Count.l0]
    rw [if_neg (by omega), List.drop_of_length_le (by omega)]
    rfl
  | succ d ih =>
    intro k i t hi hk h0 h1
    obtain ⟨k, rfl⟩ : ∃ m, k = m + 1 := ⟨k - 1, by omega⟩
    have hil : i < L.length := by omega
    simp only [spec_l12Count.l0]
    rw [if_pos (by omega), if_pos (by omega), if_pos (by omega), rdiB _ i hil]
    have hb := List.all_eq_true.1 hs _ (List.getElem_mem hil)
    unfold stepB at hb
    rw [Bool.and_eq_true, decide_eq_true_iff, decide_eq_true_iff] at hb
    have e1 : wrap64 (L[i].f0 + (L[i].f1.length : Int)) = L[i].f0 + (L[i].f1.length : Int) := by unfold wrap64; omega
    have e2 : wrap64 (t + (L[i].f0 + (L[i].f1.length : Int))) = t + sizeB L[i] := by unfold sizeB wrap64; omega
    rw [e1, e2, w64s i (by omega), ih k (i + 1) _ (by omega) (by omega) (by unfold sizeB; omega) (by unfold sizeB; omega), List.drop_eq_getElem_cons hil]
    rfl
/-- What the reference asks of a block. -/
def specB (t : Int) (L : List S66) (b : S66) : Bool := b.f1.all (instB t) && endsB t L b
theorem inst_step (t : Int) (x : S69) {R : Option Bool} : (if argsN x.f0 < 0 then some false else (if (x.f2.length : Int) = argsN x.f0 then (if okV t x.f2 = true then (if x.f0 = 1 then R else (if x.f1 = 0 then R else some false)) else some false) else some false)) = (if instB t x = true then R else some false) := by
  unfold instB
  by_cases h0 : argsN x.f0 < 0
  · have hb : ((x.f2.length : Int) == argsN x.f0) = false := by rw [beq_eq_false_iff_ne]; omega
    rw [if_pos h0, hb]; rfl
  · rw [if_neg h0]
    by_cases h1 : (x.f2.length : Int) = argsN x.f0
    · have hb : ((x.f2.length : Int) == argsN x.f0) = true := by rw [beq_iff_eq]; exact h1
      rw [if_pos h1, hb, Bool.true_and]
      cases okV t x.f2 with
      | false => rw [Bool.and_false]; rfl
      | true =>
        rw [if_pos rfl, Bool.and_true]
        by_cases h2 : x.f0 = 1
        · have e2 : (x.f0 == 1) = true := by rw [beq_iff_eq]; exact h2
          rw [if_pos h2, e2, Bool.true_or]; rfl
        · have e2 : (x.f0 == 1) = false := by rw [beq_eq_false_iff_ne]; exact h2
          rw [if_neg h2, e2, Bool.false_or]
          by_cases h3 : x.f1 = 0
          · have e3 : (x.f1 == 0) = true := by rw [beq_iff_eq]; exact h3
            rw [if_pos h3, e3]; rfl
          · have e3 : (x.f1 == 0) = false := by rw [beq_eq_false_iff_ne]; exact h3
            rw [if_neg h3, e3]; rfl
    · have hb : ((x.f2.length : Int) == argsN x.f0) = false := by rw [beq_eq_false_iff_ne]; exact h1
      rw [if_neg h1, hb]; rfl
theorem l2_run (p t : Int) (ht : 0 ≤ t ∧ t ≤ 1000000) (L : List S66) (n i' : Int) (b : S66) (hb : hB b) (i1 : Int) (hi1 : wrap64 (i' + 1) = i1) (K : Nat) (hK : 1048576 < K) (R : Bool) (hR : ∀ k, K ≤ k → spec_GoodFunc.l1 k t L n i1 p L = some R) (d : Nat) : ∀ (k j : Nat), j + d = b.f1.length → d + K < k →
    spec_GoodFunc.l2 k t L n i' b.f1 (b.f1.length : Int) (j : Int) p L b.f0 b.f1 b.f2 b.f3 b.f4 = some ((b.f1.drop j).all (instB t) && endsB t L b && R) := by
  have hln := hb.1.1
  induction d with
  | zero =>
    intro k j hi hk
    obtain ⟨k, rfl⟩ : ∃ m, k = m + 1 := ⟨k - 1, by omega⟩
    simp only [spec_GoodFunc.l2]
    rw [if_neg (by omega), List.drop_of_length_le (by omega)]
    unfold spec_l12Ends.f
    rw [if_pos ⟨ht, fun j hj => by have : j.f1.length ≤ 1048576 := hb.2.2 j hj; omega⟩, Option.bind_some, hi1, hR k (by omega)]
    cases endsB t L b <;> rfl
  | succ d ih =>
    intro k j hi hk
    obtain ⟨k, rfl⟩ : ∃ m, k = m + 1 := ⟨k - 1, by omega⟩
    have hil : j < b.f1.length := by omega
    have hx : b.f1[j].f2.length ≤ 1048576 := hb.1.2 _ (List.getElem_mem hil)
    simp only [spec_GoodFunc.l2]
    rw [if_pos (by omega), if_pos (by omega), if_pos (by omega), rdiI _ j hil, l12Arity_f k (by omega), Option.bind_some, Option.bind_some, l1All_ok _ t ⟨by omega, by omega⟩ (by omega) k (by omega), Option.bind_some, w64s j (by omega), inst_step, ih k (j + 1) (by omega) (by omega), List.drop_eq_getElem_cons hil, List.all_cons]
    cases instB t b.f1[j] <;> rfl
theorem l1_run (p t : Int) (ht : 0 ≤ t ∧ t ≤ 1000000) (L : List S66) (hn : L.length ≤ 8) (hin : ∀ x ∈ L, hB x) (d : Nat) : ∀ (k i : Nat), i + d = L.length → d * 1048580 + 1048580 < k → spec_GoodFunc.l1 k t L (L.length : Int) (i : Int) p L = some ((L.drop i).all (specB t L)) := by
  induction d with
  | zero =>
    intro k i hi hk
    obtain ⟨k, rfl⟩ : ∃ m, k = m + 1 := ⟨k - 1, by omega⟩
    simp only [spec_GoodFunc.l1]
    rw [if_neg (by omega), List.drop_of_length_le (by omega)]
    rfl
  | succ d ih =>
    intro k i hi hk
    obtain ⟨k, rfl⟩ : ∃ m, k = m + 1 := ⟨k - 1, by omega⟩
    have hil : i < L.length := by omega
    have hb := hin _ (List.getElem_mem hil)
    have hbl := hb.1.1
    simp only [spec_GoodFunc.l1]
    rw [if_pos (by omega), if_pos (by omega), if_pos (by omega), rdiB _ i hil]
    obtain ⟨K, hKd⟩ : ∃ K, K = d * 1048580 + 1048581 := ⟨_, rfl⟩
    have hK0 : d * 1048580 + 1048580 < K := by rw [hKd]; exact Nat.lt_succ_self _
    have hR : ∀ k', K ≤ k' → spec_GoodFunc.l1 k' t L (L.length : Int) ((i + 1 : Nat) : Int) p L = some ((L.drop (i + 1)).all (specB t L)) := by
      intro k' hk'
      exact ih k' (i + 1) (by omega) (Nat.lt_of_lt_of_le hK0 hk')
    have hw : wrap64 ((i : Int) + 1) = ((i + 1 : Nat) : Int) := w64s i (by omega)
    have hK1 : 1048576 < K := by omega
    have hK2 : L[i].f1.length + K < k := by omega
    have h := l2_run p t ht L (L.length : Int) (i : Int) L[i] hb _ hw K hK1 ((L.drop (i + 1)).all (specB t L)) hR L[i].f1.length k 0 (Nat.zero_add _) hK2
    rw [List.drop_zero] at h
    rw [List.drop_eq_getElem_cons hil, List.all_cons]
    exact h
theorem l0_run (p : Int) (hp : 0 ≤ p ∧ p ≤ 4) (L : List S66) (hn : L.length ≤ 8) (hin : ∀ x ∈ L, hB x) (d : Nat) : ∀ (k i : Nat), i + d = L.length → d + 20000000 < k → (L.take i).all stepB = true → spec_GoodFunc.l0 k L (L.length : Int) (i : Int) p L = some ((L.drop i).all stepB && (decide (totB p L ≤ 80) && L.all (specB (totB p L) L))) := by
  induction d with
  | zero =>
    intro k i hi hk ha
    obtain ⟨k, rfl⟩ : ∃ m, k = m + 1 := ⟨k - 1, by omega⟩
    rw [List.take_of_length_le (by omega)] at ha
    have hc := count_run L hn ha L.length k 0 p (by omega) (by omega) hp.1 (by omega)
    have hb := totB_le L p ha
    simp only [spec_GoodFunc.l0]
    rw [if_neg (by omega)]
    unfold spec_l12Count.f
    rw [List.drop_zero] at hc
    rw [show (0 : Int) = ((0 : Nat) : Int) from rfl, hc, Option.bind_some, List.drop_of_length_le (by omega), List.all_nil, Bool.true_and]
    by_cases h : totB p L > 80
    · rw [if_pos h, decide_eq_false (by omega)]; rfl
    · have h1 := l1_run p (totB p L) (by omega) L hn hin L.length k 0 (by omega) (by omega)
      rw [List.drop_zero] at h1
      rw [if_neg h, h1, decide_eq_true (by omega)]; rfl
  | succ d ih =>
    intro k i hi hk ha
    obtain ⟨k, rfl⟩ : ∃ m, k = m + 1 := ⟨k - 1, by omega⟩
    have hil : i < L.length := by omega
    simp only [spec_GoodFunc.l0]
    rw [if_pos (by omega), if_pos (by omega), if_pos (by omega), rdiB _ i hil, l1In_dec, Option.bind_some, List.drop_eq_getElem_cons hil, List.all_cons, w64s i (by omega)]
    by_cases h1 : 0 ≤ L[i].f0 ∧ L[i].f0 ≤ 4
    · by_cases h2 : (L[i].f1.length : Int) > 80
      · have hs : stepB L[i] = false := by unfold stepB; rw [decide_eq_false (show ¬ L[i].f1.length ≤ 80 by omega), Bool.and_false]
        rw [decide_eq_true h1, if_pos rfl, if_pos h2, hs]; rfl
      · have hs : stepB L[i] = true := by unfold stepB; rw [decide_eq_true h1, decide_eq_true (show L[i].f1.length ≤ 80 by omega)]; rfl
        rw [decide_eq_true h1, if_pos rfl, if_neg h2, hs, Bool.true_and]
        refine ih k (i + 1) (by omega) (by omega) ?_
        rw [List.take_succ_eq_append_getElem hil, List.all_append, ha, List.all_cons, hs]
        rfl
    · have hs : stepB L[i] = false := by unfold stepB; rw [decide_eq_false h1, Bool.false_and]
      rw [decide_eq_false h1, if_neg (by simp), hs]; rfl
theorem not_any_not {α : Type} (l : List α) (f : α → Bool) : (!(l.any fun x => !f x)) = l.all f := by
  induction l with
  | nil => rfl
  | cons x l ih => rw [List.any_cons, List.all_cons, Bool.not_or, Bool.not_not, ih]
theorem okV_one (t x : Int) : okV t [x] = decide (0 ≤ x ∧ x < t) := by
  unfold okV offV
  rw [List.any_cons, List.any_nil, Bool.or_false, Bool.not_not]
theorem blockB_eq (t : Int) (L : List S66) (b : S66) : blockB t L b = specB t L b := by
  unfold blockB specB
  rw [not_any_not, not_any_not, Bool.and_assoc]
  congr 1
  unfold endI endsB
  by_cases h1 : b.f2 = 1
  · rw [if_pos h1, if_pos h1, okV_one, Bool.and_comm]
  rw [if_neg h1, if_neg h1]
  by_cases h2 : b.f2 = 2
  · rw [if_pos h2, if_pos h2, Bool.and_comm, Bool.and_comm (decide (b.f4.length = 1))]
  rw [if_neg h2, if_neg h2]
  by_cases h3 : b.f2 = 3
  · rw [if_pos h3, if_pos h3, okV_one, Bool.and_comm]
  rw [if_neg h3, if_neg h3, Bool.and_false]
theorem specGF_f (p : Int) (L : List S66) (hl : L.length ≤ 1048576) (hin : ∀ x ∈ L, hB x) (k : Nat) (hk : 30000000 < k) : spec_GoodFunc.f k p L = some (goodM p L) := by
  obtain ⟨k, rfl⟩ : ∃ m, k = m + 1 := ⟨k - 1, by omega⟩
  unfold spec_GoodFunc.f goodM headB
  have ea : (!(L.any fun b => !blockB (totB p L) L b)) = L.all (specB (totB p L) L) := by
    rw [not_any_not]
    congr 1
    exact funext fun b => blockB_eq _ _ _
  rw [ea, l1In_dec, Option.bind_some]
  by_cases hp : 0 ≤ p ∧ p ≤ 4
  · rw [decide_eq_true hp, if_pos rfl, l1In_dec, Option.bind_some, Bool.true_and]
    by_cases hn : 1 ≤ (L.length : Int) ∧ (L.length : Int) ≤ 8
    · rw [decide_eq_true hn, if_pos rfl, if_pos (by omega), Bool.true_and]
      simp only [spec_GoodFunc.j0]
      by_cases h0 : (rd_T66 L 0).f0 = 0
      · have e0 : ((rd_T66 L 0).f0 != 0) = false := bne_eq_false_iff_eq.2 h0
        have := l0_run p hp L (by omega) hin L.length k 0 (by omega) (by omega) rfl
        rw [List.drop_zero] at this
        rw [e0, if_neg (by simp), decide_eq_true h0, Bool.true_and, show (0 : Int) = ((0 : Nat) : Int) from rfl, this, Bool.and_assoc]
      · have e0 : ((rd_T66 L 0).f0 != 0) = true := bne_iff_ne.2 h0
        rw [e0, if_pos rfl, decide_eq_false h0]; rfl
    · rw [decide_eq_false hn, if_neg (by simp), Bool.false_and]
      simp only [spec_GoodFunc.j0]
      rfl
  · rw [decide_eq_false hp, if_neg (by simp), Bool.false_and]
    simp only [spec_GoodFunc.j0]
    rfl

theorem wB_of {l : List S77} (h : ∀ x ∈ l, RdFnExactCostOfFunc.ok77 x) : ∀ x ∈ l, wB x := by
  intro x hx
  obtain ⟨-, h1, -, -, h4⟩ := h x hx
  exact ⟨h1.1, fun y hy => (h1.2 y hy).2.2.1, h4.1, fun y hy => (h4.2 y hy).2.1⟩
/-- What an op costs. -/
def opC (a : Int) : Int := if a = 1 ∨ a = 2 then 1 else if a = 11 then 3 else if a = 6 then 4 else if a = 8 then 20 else 2
theorem impl_op (a : Int) (k : Nat) (hk : 0 < k) : impl_cost.f k a = some (opC a) := by
  obtain ⟨k, rfl⟩ : ∃ m, k = m + 1 := ⟨k - 1, by omega⟩
  unfold impl_cost.f opC
  by_cases h1 : a = 1
  · subst h1; rfl
  · rw [if_neg h1]
    simp only [impl_cost.j0]
    by_cases h2 : a = 2
    · subst h2; rfl
    · rw [if_neg (by simpa using h2), if_neg (by omega : ¬ (a = 1 ∨ a = 2))]
      split
      · rfl
      · split
        · rfl
        · split <;> rfl
theorem spec_op (a : Int) (k : Nat) (hk : 0 < k) : spec_l10Op.f k a = some (opC a) := by
  obtain ⟨k, rfl⟩ : ∃ m, k = m + 1 := ⟨k - 1, by omega⟩
  unfold spec_l10Op.f opC
  by_cases h1 : a = 1
  · subst h1; rfl
  · rw [if_neg h1]
    simp only [spec_l10Op.j0]
    by_cases h2 : a = 2
    · subst h2; rfl
    · rw [if_neg (by simpa using h2), if_neg (by omega : ¬ (a = 1 ∨ a = 2))]
      split
      · rfl
      · split
        · rfl
        · split <;> rfl
def instC (a : Int) : Int := if a = 12 ∨ a = 13 then 5 else opC a
def instsC (t : Int) : List S69 → Int | [] => t | x :: l => instsC (wrap64 (t + instC x.f0)) l
def blocksC (t : Int) : List S66 → Int | [] => t | b :: l => blocksC (instsC t b.f1) l
theorem spec_l12Cost_i (x9 : List S66) (n i : Int) (b : List S69) (hb : b.length ≤ 1048576) (i1 : Int) (hi1 : wrap64 (i + 1) = i1) (K : Nat) (R : Int → Int) (hR : ∀ k t, K ≤ k → spec_l12Cost.l0 k t x9 n i1 = some (R t)) (d : Nat) : ∀ (k j : Nat) (t : Int), j + d = b.length → d + K < k → spec_l12Cost.l1 k t x9 n i b (b.length : Int) (j : Int) = some (R (instsC t (b.drop j))) := by
  induction d with
  | zero =>
    intro k j t hj hk
    obtain ⟨k, rfl⟩ : ∃ m, k = m + 1 := ⟨k - 1, by omega⟩
    simp only [spec_l12Cost.l1]
    rw [if_neg (by omega), List.drop_of_length_le (by omega), hi1, hR k t (by omega)]
    rfl
  | succ d ih =>
    intro k j t hj hk
    obtain ⟨k, rfl⟩ : ∃ m, k = m + 1 := ⟨k - 1, by omega⟩
    have hjl : j < b.length := by omega
    simp only [spec_l12Cost.l1]
    rw [if_pos (by omega), if_pos (by omega), if_pos (by omega), rdiI _ j hjl, w64s j (by omega), List.drop_eq_getElem_cons hjl]
    by_cases h1 : b[j].f0 = 12
    · rw [if_pos h1, ih k (j + 1) _ (by omega) (by omega)]
      show _ = some (R (instsC (wrap64 (t + instC b[j].f0)) (b.drop (j + 1))))
      unfold instC
      rw [if_pos (Or.inl h1)]
    · rw [if_neg h1]
      by_cases h2 : b[j].f0 = 13
      · rw [if_pos h2, ih k (j + 1) _ (by omega) (by omega)]
        show _ = some (R (instsC (wrap64 (t + instC b[j].f0)) (b.drop (j + 1))))
        unfold instC
        rw [if_pos (Or.inr h2)]
      · rw [if_neg h2, spec_op _ k (by omega), Option.bind_some, ih k (j + 1) _ (by omega) (by omega)]
        show _ = some (R (instsC (wrap64 (t + instC b[j].f0)) (b.drop (j + 1))))
        unfold instC
        rw [if_neg (by rintro (h | h) <;> contradiction)]
theorem spec_l12Cost_run (L : List S66) (hn : L.length ≤ 8) (hin : ∀ x ∈ L, hB x) (d : Nat) : ∀ (k i : Nat) (t : Int), i + d = L.length → d * 1048580 < k → spec_l12Cost.l0 k t L (L.length : Int) (i : Int) = some (blocksC t (L.drop i)) := by
  induction d with
  | zero =>
    intro k i t hi hk
    obtain ⟨k, rfl⟩ : ∃ m, k = m + 1 := ⟨k - 1, by omega⟩
    simp only [spec_l12Cost.l0]
    rw [if_neg (by omega), List.drop_of_length_le (by omega)]
    rfl
  | succ d ih =>
    intro k i t hi hk
    obtain ⟨k, rfl⟩ : ∃ m, k = m + 1 := ⟨k - 1, by omega⟩
    have hil : i < L.length := by omega
    have hb := hin _ (List.getElem_mem hil)
    have hbl := hb.1.1
    simp only [spec_l12Cost.l0]
    rw [if_pos (by omega), if_pos (by omega), if_pos (by omega), rdiB _ i hil]
    obtain ⟨K, hKd⟩ : ∃ K, K = d * 1048580 + 1 := ⟨_, rfl⟩
    have hK0 : d * 1048580 < K := by rw [hKd]; exact Nat.lt_succ_self _
    have hR : ∀ k' t', K ≤ k' → spec_l12Cost.l0 k' t' L (L.length : Int) ((i + 1 : Nat) : Int) = some (blocksC t' (L.drop (i + 1))) := by
      intro k' t' hk'
      exact ih k' (i + 1) t' (by omega) (Nat.lt_of_lt_of_le hK0 hk')
    have hw : wrap64 ((i : Int) + 1) = ((i + 1 : Nat) : Int) := w64s i (by omega)
    have hK2 : L[i].f1.length + K < k := by omega
    have h := spec_l12Cost_i L (L.length : Int) (i : Int) L[i].f1 hbl _ hw K (fun t => blocksC t (L.drop (i + 1))) hR L[i].f1.length k 0 t (Nat.zero_add _) hK2
    rw [List.drop_zero] at h
    rw [List.drop_eq_getElem_cons hil]
    exact h
theorem impl_costOfFunc_i (x9 : List S66) (n i : Int) (b : List S69) (hb : b.length ≤ 1048576) (i1 : Int) (hi1 : wrap64 (i + 1) = i1) (K : Nat) (R : Int → Int) (hR : ∀ k t, K ≤ k → impl_costOfFunc.l0 k t x9 n i1 = some (R t)) (d : Nat) : ∀ (k j : Nat) (t : Int), j + d = b.length → d + K < k → impl_costOfFunc.l1 k t x9 n i b (b.length : Int) (j : Int) = some (R (instsC t (b.drop j))) := by
  induction d with
  | zero =>
    intro k j t hj hk
    obtain ⟨k, rfl⟩ : ∃ m, k = m + 1 := ⟨k - 1, by omega⟩
    simp only [impl_costOfFunc.l1]
    rw [if_neg (by omega), List.drop_of_length_le (by omega), hi1, hR k t (by omega)]
    rfl
  | succ d ih =>
    intro k j t hj hk
    obtain ⟨k, rfl⟩ : ∃ m, k = m + 1 := ⟨k - 1, by omega⟩
    have hjl : j < b.length := by omega
    simp only [impl_costOfFunc.l1]
    rw [if_pos (by omega), if_pos (by omega), if_pos (by omega), rdiI _ j hjl, w64s j (by omega), List.drop_eq_getElem_cons hjl]
    by_cases h1 : b[j].f0 = 12
    · rw [if_pos h1, ih k (j + 1) _ (by omega) (by omega)]
      show _ = some (R (instsC (wrap64 (t + instC b[j].f0)) (b.drop (j + 1))))
      unfold instC
      rw [if_pos (Or.inl h1)]
    · rw [if_neg h1]
      by_cases h2 : b[j].f0 = 13
      · rw [if_pos h2, ih k (j + 1) _ (by omega) (by omega)]
        show _ = some (R (instsC (wrap64 (t + instC b[j].f0)) (b.drop (j + 1))))
        unfold instC
        rw [if_pos (Or.inr h2)]
      · rw [if_neg h2, impl_op _ k (by omega), Option.bind_some, ih k (j + 1) _ (by omega) (by omega)]
        show _ = some (R (instsC (wrap64 (t + instC b[j].f0)) (b.drop (j + 1))))
        unfold instC
        rw [if_neg (by rintro (h | h) <;> contradiction)]
theorem impl_costOfFunc_run (L : List S66) (hn : L.length ≤ 8) (hin : ∀ x ∈ L, hB x) (d : Nat) : ∀ (k i : Nat) (t : Int), i + d = L.length → d * 1048580 < k → impl_costOfFunc.l0 k t L (L.length : Int) (i : Int) = some (blocksC t (L.drop i)) := by
  induction d with
  | zero =>
    intro k i t hi hk
    obtain ⟨k, rfl⟩ : ∃ m, k = m + 1 := ⟨k - 1, by omega⟩
    simp only [impl_costOfFunc.l0]
    rw [if_neg (by omega), List.drop_of_length_le (by omega)]
    rfl
  | succ d ih =>
    intro k i t hi hk
    obtain ⟨k, rfl⟩ : ∃ m, k = m + 1 := ⟨k - 1, by omega⟩
    have hil : i < L.length := by omega
    have hb := hin _ (List.getElem_mem hil)
    have hbl := hb.1.1
    simp only [impl_costOfFunc.l0]
    rw [if_pos (by omega), if_pos (by omega), if_pos (by omega), rdiB _ i hil]
    obtain ⟨K, hKd⟩ : ∃ K, K = d * 1048580 + 1 := ⟨_, rfl⟩
    have hK0 : d * 1048580 < K := by rw [hKd]; exact Nat.lt_succ_self _
    have hR : ∀ k' t', K ≤ k' → impl_costOfFunc.l0 k' t' L (L.length : Int) ((i + 1 : Nat) : Int) = some (blocksC t' (L.drop (i + 1))) := by
      intro k' t' hk'
      exact ih k' (i + 1) t' (by omega) (Nat.lt_of_lt_of_le hK0 hk')
    have hw : wrap64 ((i : Int) + 1) = ((i + 1 : Nat) : Int) := w64s i (by omega)
    have hK2 : L[i].f1.length + K < k := by omega
    have h := impl_costOfFunc_i L (L.length : Int) (i : Int) L[i].f1 hbl _ hw K (fun t => blocksC t (L.drop (i + 1))) hR L[i].f1.length k 0 t (Nat.zero_add _) hK2
    rw [List.drop_zero] at h
    rw [List.drop_eq_getElem_cons hil]
    exact h
theorem specCF_f (p : Int) (L : List S66) (hl : L.length ≤ 1048576) (hin : ∀ x ∈ L, hB x) (k : Nat) (hk : 30000000 < k) : ∃ v, spec_CostOfFunc.f k p L = some v ∧ impl_CostOfFunc.f k p L = some v := by
  unfold spec_CostOfFunc.f impl_CostOfFunc.f impl_GoodFunc.f
  rw [specGF_f p L hl hin k hk, Option.bind_some, Option.bind_some]
  by_cases hg : goodM p L = true
  · have h0 := hg
    unfold goodM headB at h0
    simp only [Bool.and_eq_true, decide_eq_true_iff] at h0
    obtain ⟨⟨⟨⟨⟨h1, h2⟩, -⟩, h3⟩, -⟩, -⟩ := h0
    have hs := spec_l12Cost_run L (by omega) hin L.length k 0 0 (by omega) (by omega)
    have hi := impl_costOfFunc_run L (by omega) hin L.length k 0 0 (by omega) (by omega)
    unfold spec_l12Cost.f impl_costOfFunc.f
    rw [if_pos hg, if_pos hg, show spec_l12Cost.l0 k 0 L (L.length : Int) 0 = _ from hs, show impl_costOfFunc.l0 k 0 L (L.length : Int) 0 = _ from hi]
    exact ⟨_, rfl, rfl⟩
  · rw [if_neg hg, if_neg hg]
    exact ⟨_, rfl, rfl⟩
theorem FnExactCostOfFunc : RdFnExactCostOfFunc.Pure := by
  rintro ⟨p, l⟩ ⟨hp, hl⟩ hl2
  simp only at hp hl hl2 ⊢
  obtain ⟨K, hK⟩ : ∃ k : Nat, k = 99999999 := ⟨_, rfl⟩
  refine ⟨K + 1, ?_⟩
  unfold laws_FnExactCostOfFunc.f
  obtain ⟨t, ht, hh⟩ := szF_f p l hl.1 (wB_of hl.2) (K + 1) (by omega)
  rw [ht, Option.bind_some]
  by_cases h : t < 0
  · rw [if_pos h]
  · obtain ⟨-, -, h1, h2⟩ := hh.resolve_left h
    have hlen : (l.map cvB).length = l.length := List.length_map _
    have hto := toF_f p l h1 h2 (K + 1) (by omega)
    have hto' := toF_f p l h1 h2 K (by omega)
    have hin := hgB l h2
    obtain ⟨v, hs, hv⟩ := specCF_f p (l.map cvB) (by omega) hin (K + 1) (by omega)
    have hq := eqF_f p (l.map cvB) (by omega) hin K (by omega)
    generalize l.map cvB = L at *
    simp only [if_neg h, hto, hs, hv, Option.bind_some, bne_self_eq_false, if_true, laws_FnExactCostOfFunc.j0, hto', hq, Bool.false_eq_true, if_false]

end Go.Proofs.Ytpklnipnggocoaa.Pure
