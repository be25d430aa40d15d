/-
  DERIVED. GIVEN WITH THE SEED: THE CARDS: each row of YtgklegikmkepgaaDoorRows.lean that lists a variable, with what it lists TIED to the program's text (the seventh form; the later family's looks); each row that meets fmt, with fmt's text TOLD by the authors' own Lean function (tested against real Go, not proved from fmt's source: count such statements apart). THE CARD IS WHAT COUNTS. Prove the row's statement (the work); the ties are given (YtgklegikmkepgaaDoorTie.lean); close each card by the builder's one call (the guide's Derived/Test/ToyasCard.lean, 'card_holds'). Laid BY PROGRAM, IN A SANDBOX (cutbox-door.mjs). By AI agents, Wed Nov 11 2026. No macro, syntax, notation, axiom, sorry.
-/
import Derived.Test.YtgklegikmkepgaaDoorRows
import GoSem.ClaimSeven
namespace Go.Proofs.YtgklegikmkepgaaDoor
namespace Rows

/-- THE TIED CARD OF 'laws.FnExactOddInverse'. -/
def fnExactOddInverseCard : Claim7 := { stood := { row := fnExactOddInverseRow, standIns := [], harness := (true, "ee3c1e48c836de0f029bf3416cdf8b2896434901a1bca2fa472cf6f398de966a"), looks := true }, kinds := [], alts := [], laidByText := true, laidKinds := [.data], laidTests := true, laidLooks := .later }
def FnExactOddInverseCardSaid : Prop := Claim7.holds Tryd.pinned (.plain (OpenSpec.ofChange fnExactOddInverseSpec)) fnExactOddInverseCard

/-- THE TIED CARD OF 'laws.FnExactNumText'. -/
def fnExactNumTextCard : Claim7 := { stood := { row := fnExactNumTextRow, standIns := [], harness := (true, "ee3c1e48c836de0f029bf3416cdf8b2896434901a1bca2fa472cf6f398de966a"), looks := true }, kinds := [], alts := [], laidByText := true, laidKinds := [.data, .data, .data], laidTests := true, laidLooks := .later }
def FnExactNumTextCardSaid : Prop := Claim7.holds Tryd.pinned (.plain (OpenSpec.ofChange fnExactNumTextSpec)) fnExactNumTextCard

/-- THE TIED CARD OF 'laws.FnExactReadNum'. -/
def fnExactReadNumCard : Claim7 := { stood := { row := fnExactReadNumRow, standIns := [], harness := (true, "ee3c1e48c836de0f029bf3416cdf8b2896434901a1bca2fa472cf6f398de966a"), looks := true }, kinds := [], alts := [], laidByText := true, laidKinds := [.data, .data, .data, .sentinel, .sentinel], laidTests := true, laidLooks := .later }
def FnExactReadNumCardSaid : Prop := Claim7.holds Tryd.pinned (.plain (OpenSpec.ofChange fnExactReadNumSpec)) fnExactReadNumCard

/-- THE SECOND FORM's CARD OF 'laws.FnExactOddInverse'. -/
def fnExactOddInverseUptoCard : Claim7 := { stood := { row := fnExactOddInverseUptoRow, standIns := [], harness := (true, "ee3c1e48c836de0f029bf3416cdf8b2896434901a1bca2fa472cf6f398de966a"), looks := true }, kinds := [], alts := [], laidByText := true, laidKinds := [.data], laidTests := true, laidLooks := .later }
def FnExactOddInverseUptoCardSaid : Prop := Claim7.holds Tryd.pinned (.plain (OpenSpec.upto fnExactOddInverseSpec)) fnExactOddInverseUptoCard

/-- THE SECOND FORM's CARD OF 'laws.FnExactNumText'. -/
def fnExactNumTextUptoCard : Claim7 := { stood := { row := fnExactNumTextUptoRow, standIns := [], harness := (true, "ee3c1e48c836de0f029bf3416cdf8b2896434901a1bca2fa472cf6f398de966a"), looks := true }, kinds := [], alts := [], laidByText := true, laidKinds := [.data, .data, .data], laidTests := true, laidLooks := .later }
def FnExactNumTextUptoCardSaid : Prop := Claim7.holds Tryd.pinned (.plain (OpenSpec.upto fnExactNumTextSpec)) fnExactNumTextUptoCard

/-- THE SECOND FORM's CARD OF 'laws.FnExactReadNum'. -/
def fnExactReadNumUptoCard : Claim7 := { stood := { row := fnExactReadNumUptoRow, standIns := [], harness := (true, "ee3c1e48c836de0f029bf3416cdf8b2896434901a1bca2fa472cf6f398de966a"), looks := true }, kinds := [], alts := [], laidByText := true, laidKinds := [.data, .data, .data, .sentinel, .sentinel], laidTests := true, laidLooks := .later }
def FnExactReadNumUptoCardSaid : Prop := Claim7.holds Tryd.pinned (.plain (OpenSpec.upto fnExactReadNumSpec)) fnExactReadNumUptoCard
end Rows
end Go.Proofs.YtgklegikmkepgaaDoor
