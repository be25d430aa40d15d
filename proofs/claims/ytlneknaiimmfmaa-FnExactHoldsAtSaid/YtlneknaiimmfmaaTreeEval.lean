/- What a term comes to, in plain words. No condition. -/
import Derived.Test.YtlneknaiimmfmaaTreeMore
set_option linter.unusedVariables false
namespace Go.Proofs.Ytlneknaiimmfmaa.Tree
open Go Go.RowKit
/-- What a node comes to, by what its kids come to. -/
def comb (dop : Int → List Int → Option (Int × Bool)) (env : List Int) (o n : Int) (rs : List (Int × Bool)) : Int × Bool :=
  if o = 1 then (n, false) else if o = 2 then (env.getD n.toNat 0, false)
  else if o = 11 then (if (rs.getD 0 (0, false)).2 = true then (0, true) else if (rs.getD 0 (0, false)).1 = 0 then rs.getD 2 (0, false) else rs.getD 1 (0, false))
  else if rs.any (·.2) = true then (0, true) else (dop o (rs.map (·.1))).getD (0, false)
mutual
def Tr.ev (dop : Int → List Int → Option (Int × Bool)) (env : List Int) : Tr → Int × Bool
  | .mk o n ks => comb dop env o n (evs dop env ks)
def evs (dop : Int → List Int → Option (Int × Bool)) (env : List Int) : List Tr → List (Int × Bool)
  | [] => []
  | k :: ks => k.ev dop env :: evs dop env ks
end
theorem evs_map (dop : Int → List Int → Option (Int × Bool)) (env : List Int) (ks : List Tr) : evs dop env ks = ks.map fun k => k.ev dop env := by
  induction ks with
  | nil => simp [evs]
  | cons x t ih => simp [evs, ih]
theorem ev_eq (dop : Int → List Int → Option (Int × Bool)) (env : List Int) (T : Tr) : T.ev dop env = comb dop env T.op T.n (T.kids.map fun k => k.ev dop env) := by
  cases T; rw [Tr.ev, evs_map]; rfl
theorem add_lit (ad : Addr) (j : Nat) (h : 0 < j) : ad.add j = ⟨ad.block, ad.off + j, none⟩ := by
  unfold Addr.add
  split
  · omega
  · rfl
theorem add_zero (ad : Addr) : ad.add 0 = ad := by
  unfold Addr.add
  rw [if_pos rfl]
end Go.Proofs.Ytlneknaiimmfmaa.Tree
