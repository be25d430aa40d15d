/- The program's NumText, readNum, ReadNum and the two laws' functions, walked over the library's contracts; under the condition that the library's tables and errors lie in their variables. -/
import Derived.Test.YtgklegikmkepgaaDoorTextA
import Derived.Test.YtgklegikmkepgaaDoorTextLay
import Derived.Lib.AppendIntMem
import Derived.Lib.AtoiErrMem
set_option linter.unusedVariables false
set_option linter.unusedSimpArgs false
namespace Go.Proofs.YtgklegikmkepgaaDoor.Text
open Go Go.RowKit Go.Shelf Go.Proofs.YtgklegikmkepgaaDoor.PFnExactReadNum Go.Proofs.YtgklegikmkepgaaDoorW.PrintWords Go.Proofs.YtgklegikmkepgaaDoorW.PrintLast Go.Proofs.YtgklegikmkepgaaDoorW.PrintMore
/-- The numeral of a number. -/
def num (n : Int) : ByteArray := ⟨(Lib.itoa n).toArray⟩
/-- What is asked of the variables. -/
structure Vars (w : World) : Prop where
  tab : Lib.TabIs Tryd.prog w "internal/strconv.uint64pow10" .u64 Lib.pow10Tab
structure Errs (w : World) : Prop where
  syn : ∃ t p, w.var? Tryd.prog "strconv.ErrSyntax" = some #[.iface t p]
  rng : ∃ t p, w.var? Tryd.prog "strconv.ErrRange" = some #[.iface t p]
theorem var_below {w W : World} {n : String} {cs : Array Value} (h : w.var? Tryd.prog n = some cs) (hb : Below w.heap.size w W) : W.var? Tryd.prog n = some cs := by
  unfold World.var? at h ⊢
  cases hg : Tryd.prog.globalNamed n with
  | none => rw [hg] at h; exact h
  | some g =>
    rw [hg] at h
    simp only [Option.bind_some] at h ⊢
    have hlt : g < w.heap.size := by
      rcases Nat.lt_or_ge g w.heap.size with hl | hl
      · exact hl
      · rw [Array.getElem?_eq_none hl] at h; exact absurd h (by simp)
    rw [hb.block g hlt]
    exact h
theorem Vars.below {w W : World} (h : Vars w) (hb : Below w.heap.size w W) : Vars W := ⟨var_below h.tab hb⟩
theorem Errs.below {w W : World} (h : Errs w) (hb : Below w.heap.size w W) : Errs W := ⟨h.syn.imp fun _ h => h.imp fun _ h => var_below h hb, h.rng.imp fun _ h => h.imp fun _ h => var_below h hb⟩
theorem format (n : Int) (h0 : -9223372036854775808 ≤ n) (h1 : n ≤ 9223372036854775807) (w : World) (hv : Vars w) :
    Calls Tryd.prog 14 #[.int .i64 n, .int .i64 10] w fun e w' => e = .returned (.string (num n)) ∧ Below w.heap.size w w' :=
  (Any.strconv_FormatInt_10 fiLays n h0 h1 w hv.tab).mono fun e w' ⟨he, k, os, hw⟩ => ⟨he, by rw [hw]; exact Lib.below_grow _ _ (Nat.le_refl _) _ _⟩
theorem parse_ok (s : ByteArray) (hs : s.size ≤ 1048576) (v : Int) (h : Lib.parseIntB 64 s.data.toList = .ok v) (w : World) :
    Calls Tryd.prog 18 #[.string s, .int .i64 10, .int .i64 64] w fun e w' => e = .returned (.tuple #[.int .i64 v, .nilIface]) ∧ Below w.heap.size w w' :=
  (Any.strconv_ParseInt_10_at64_ok piLays s (by omega) v h w).mono fun e w' ⟨he, hw⟩ => ⟨he, by
    rcases hw with rfl | ⟨t, rfl⟩
    · exact Below.refl _ _
    · exact Lib.bytesWorld_below _ _ _⟩
theorem parse_bad (s : ByteArray) (hs : s.size ≤ 1048576) (h : ∀ v, Lib.parseIntB 64 s.data.toList ≠ .ok v) (w : World) (he : Errs w) :
    Calls Tryd.prog 18 #[.string s, .int .i64 10, .int .i64 64] w fun e w' => ∃ (v : Int) (T : TypeId) (N : Nat), e = .returned (.tuple #[.int .i64 v, .iface T (.pointer (some ⟨N, 0, none⟩))]) ∧ Below w.heap.size w w' := by
  cases hp : Lib.parseIntB 64 s.data.toList with
  | ok v => exact absurd hp (h v)
  | «syntax» =>
    obtain ⟨t, p, hv⟩ := he.syn
    exact (Any.strconv_ParseInt_10_at64_syntax_var piLays s (by omega) hp t p w hv).mono fun e w' ⟨N, he, _, _, hb⟩ => ⟨_, _, N, he, hb⟩
  | range =>
    obtain ⟨t, p, hv⟩ := he.rng
    exact (Any.strconv_ParseInt_10_at64_range_var piLays s (by omega) hp t p w hv).mono fun e w' ⟨N, he, _, _, hb⟩ => ⟨_, _, N, he, hb⟩
set_option maxHeartbeats 4000000 in
set_option maxRecDepth 100000 in
theorem numText (n : Int) (h0 : -9223372036854775808 ≤ n) (h1 : n ≤ 9223372036854775807) (w : World) (hv : Vars w) :
    Calls Tryd.prog 9 #[.int .i64 n] w fun e w' => e = .returned (.string (num n)) ∧ Below w.heap.size w w' := by
  have HF := Aside0.mk (format n h0 h1 w hv)
  generalize num n = x at HF ⊢
  clear h0 h1 hv
  go_enter Tryd.func9, Tryd.ntmps9
  go_wp2_with (go_at_call 14; refine HF.out.mono ?_; rintro e w' ⟨rfl, hb⟩; have HB := Aside0.mk hb; clear hb)
  go_ret
  exact ⟨rfl, HB.out⟩
set_option maxHeartbeats 4000000 in
set_option maxRecDepth 100000 in
theorem lawNum (n : Int) (h0 : -9223372036854775808 ≤ n) (h1 : n ≤ 9223372036854775807) (k : Nat) (w : World) (hv : Vars w) (hs : spec_NumText.f k n = some (num n)) :
    Calls Tryd.prog 4 #[.int .i64 n] w fun e w' => e = .returned (.bool true) ∧ Below w.heap.size w w' := by
  have HS : Aside0 (Calls Tryd.prog 8 #[.int .i64 n] w fun e w' => e = .returned (.string (num n)) ∧ Below w.heap.size w w') := ⟨spec_NumText.calls k n _ w hs⟩
  have HI : Aside0 (∀ W, Below w.heap.size w W → Calls Tryd.prog 9 #[.int .i64 n] W fun e w' => e = .returned (.string (num n)) ∧ Below w.heap.size w w') := ⟨fun W hW => (numText n h0 h1 W (hv.below hW)).mono fun e w' ⟨h, k⟩ => ⟨h, below_step hW k⟩⟩
  generalize num n = x at HS HI
  clear hs hv h0 h1
  go_enter Tryd.func4, Tryd.ntmps4
  go_wp2_with (first | (go_at_call 8; refine HS.out.mono ?_; rintro e w1 ⟨rfl, hb⟩; have HB := Aside0.mk hb; clear hb) | (go_at_call 9; refine (HI.out _ HB.out).mono ?_; rintro e w2 ⟨rfl, hb⟩; have HB2 := Aside0.mk hb; clear hb))
  go_ret
  exact ⟨rfl, HB2.out⟩
/-- What the program's ReadNum answers. -/
def readR (s : ByteArray) : Int × Bool := match Lib.parseIntB 64 s.data.toList with | .ok v => if (num v).toList = s.toList then (v, true) else (0, false) | _ => (0, false)
set_option maxHeartbeats 4000000 in
set_option maxRecDepth 100000 in
theorem readNum (s : ByteArray) (hs : s.size ≤ 1048576) (w : World) (hv : Vars w) (he : Errs w) :
    Calls Tryd.prog 16 #[.string s] w fun e w' => ∃ v : Int, e = .returned (.tuple #[.int .i64 v, .bool (readR s).2]) ∧ ((readR s).2 = true → v = (readR s).1) ∧ Below w.heap.size w w' := by
  by_cases hok : ∃ v, Lib.parseIntB 64 s.data.toList = .ok v
  · obtain ⟨v, hok⟩ := hok
    have hr : readR s = if (num v).toList = s.toList then (v, true) else (0, false) := by unfold readR; rw [hok]
    have hbd := Lib.parseIntB_bounds hok
    have HP := Aside0.mk (parse_ok s hs v hok w)
    have HN : Aside0 (∀ W, Below w.heap.size w W → Calls Tryd.prog 9 #[.int .i64 v] W fun e w' => e = .returned (.string (num v)) ∧ Below w.heap.size w w') := ⟨fun W hW => (numText v (by have := hbd.1; omega) (by have := hbd.2; omega) W (hv.below hW)).mono fun e w' ⟨h, k⟩ => ⟨h, below_step hW k⟩⟩
    have hr2 : (readR s).2 = ((num v).toList == s.toList) := by
      rw [hr]
      by_cases h : (num v).toList = s.toList
      · rw [if_pos h, h]; simp
      · rw [if_neg h]; symm; rw [beq_eq_false_iff_ne]; exact h
    have hr1 : (readR s).2 = true → v = (readR s).1 := by
      rw [hr]
      by_cases h : (num v).toList = s.toList
      · rw [if_pos h]; intro _; rfl
      · rw [if_neg h]; intro h2; exact absurd h2 (by simp)
    have HR := Aside0.mk hr1
    rw [hr2] at HR ⊢
    clear hr hr1 hr2 hbd hok hv he hs
    generalize num v = x at HN HR ⊢
    go_enter Tryd.func16, Tryd.ntmps16
    go_wp2_with (first | (go_at_call 18; refine HP.out.mono ?_; rintro e w1 ⟨rfl, hb⟩; have HB := Aside0.mk hb; clear hb) | (go_at_call 9; refine (HN.out _ HB.out).mono ?_; rintro e w2 ⟨rfl, hb⟩; have HB2 := Aside0.mk hb; clear hb))
    go_ret2
    exact ⟨v, rfl, HR.out, HB2.out⟩
  · have hbad : ∀ v, Lib.parseIntB 64 s.data.toList ≠ .ok v := fun v h => hok ⟨v, h⟩
    have hr : readR s = (0, false) := by
      unfold readR
      cases hp : Lib.parseIntB 64 s.data.toList with
      | ok v => exact absurd hp (hbad v)
      | «syntax» => rfl
      | range => rfl
    have HP := Aside0.mk (parse_bad s hs hbad w he)
    rw [hr]
    clear hr hbad hok hv he hs
    go_enter Tryd.func16, Tryd.ntmps16
    go_wp2_with (go_at_call 18; refine HP.out.mono ?_; rintro e w1 ⟨v, T, N, rfl, hb⟩; have HB := Aside0.mk hb; clear hb)
    go_ret2
    exact ⟨v, rfl, fun h => absurd h (by simp), HB.out⟩
set_option maxHeartbeats 4000000 in
set_option maxRecDepth 100000 in
theorem readNumP (s : ByteArray) (hs : s.size ≤ 1048576) (w : World) (hv : Vars w) (he : Errs w) :
    Calls Tryd.prog 11 #[.string s] w fun e w' => e = .returned (.tuple #[.int .i64 (readR s).1, .bool (readR s).2]) ∧ Below w.heap.size w w' := by
  have HR := Aside0.mk (readNum s hs w hv he)
  have h0 : (readR s).2 = false → (readR s).1 = 0 := by
    unfold readR
    split
    · split
      · intro h; exact absurd h (by simp)
      · intro _; rfl
    · intro _; rfl
  clear hs hv he
  cases hr : (readR s).2 with
  | true =>
    rw [hr] at HR
    clear h0 hr
    generalize (readR s).1 = x at HR ⊢
    go_enter Tryd.func11, Tryd.ntmps11
    go_wp2_with (go_at_call 16; refine HR.out.mono ?_; rintro e w1 ⟨v, rfl, hx, hb⟩; obtain rfl := hx rfl; have HB := Aside0.mk hb; clear hb hx)
    go_ret2
    exact ⟨rfl, HB.out⟩
  | false =>
    rw [h0 hr]
    rw [hr] at HR
    clear h0 hr
    go_enter Tryd.func11, Tryd.ntmps11
    go_wp2_with (go_at_call 16; refine HR.out.mono ?_; rintro e w1 ⟨v, rfl, hx, hb⟩; have HB := Aside0.mk hb; clear hb hx)
    go_ret2
    exact ⟨rfl, HB.out⟩
set_option maxHeartbeats 4000000 in
set_option maxRecDepth 100000 in
theorem lawRead_long (s : ByteArray) (hs : ¬ s.size ≤ 1048576) (w : World) :
    Calls Tryd.prog 5 #[.string s] w fun e w' => e = .returned (.bool true) ∧ Below w.heap.size w w' := by
  have h1 : decide ((1048576 : Int) < (s.size : Int)) = true := decide_eq_true (by omega)
  have h2 : ((1048576 : Int) < (s.size : Int)) = True := eq_true (by omega)
  have HB0 := Aside0.mk (Below.refl w.heap.size w)
  clear hs
  go_enter Tryd.func5, Tryd.ntmps5
  go_wp2
  go_ret
  exact ⟨rfl, by (repeat (first | exact HB0.out | apply pw_below_drewN | apply below_drew1))⟩
set_option maxHeartbeats 4000000 in
set_option maxRecDepth 100000 in
theorem lawRead (s : ByteArray) (hs : s.size ≤ 1048576) (k : Nat) (w : World) (hv : Vars w) (he : Errs w) (hsp : spec_ReadNum.f k s = some (readR s)) :
    Calls Tryd.prog 5 #[.string s] w fun e w' => e = .returned (.bool true) ∧ Below w.heap.size w w' := by
  have h1 : decide ((1048576 : Int) < (s.size : Int)) = false := decide_eq_false (by omega)
  have h2 : ((1048576 : Int) < (s.size : Int)) = False := eq_false (by omega)
  have HS : Aside0 (∀ W, Below w.heap.size w W → Calls Tryd.prog 10 #[.string s] W fun e w' => e = .returned (.tuple #[.int .i64 (readR s).1, .bool (readR s).2]) ∧ Below w.heap.size w w') := ⟨fun W hW => (spec_ReadNum.calls k s _ _ W hsp).mono fun e w' ⟨h, k⟩ => ⟨h, below_step hW k⟩⟩
  have HI : Aside0 (∀ W, Below w.heap.size w W → Calls Tryd.prog 11 #[.string s] W fun e w' => e = .returned (.tuple #[.int .i64 (readR s).1, .bool (readR s).2]) ∧ Below w.heap.size w w') := ⟨fun W hW => (readNumP s hs W (hv.below hW) (he.below hW)).mono fun e w' ⟨h, k⟩ => ⟨h, below_step hW k⟩⟩
  have HB0 := Aside0.mk (Below.refl w.heap.size w)
  generalize (readR s).1 = x at HS HI
  generalize (readR s).2 = y at HS HI
  clear hs hv he hsp
  go_enter Tryd.func5, Tryd.ntmps5
  go_wp2_with (first | (go_at_call 10; refine (HS.out _ (by (repeat (first | exact HB0.out | apply pw_below_drewN | apply below_drew1)))).mono ?_; rintro e w1 ⟨rfl, hb⟩; have HB := Aside0.mk hb; clear hb) | (go_at_call 11; refine (HI.out _ (by (repeat (first | exact HB.out | apply pw_below_drewN | apply below_drew1)))).mono ?_; rintro e w2 ⟨rfl, hb⟩; have HB2 := Aside0.mk hb; clear hb))
  go_ret
  exact ⟨rfl, by (repeat (first | exact HB2.out | apply pw_below_drewN | apply below_drew1))⟩
end Go.Proofs.YtgklegikmkepgaaDoor.Text
