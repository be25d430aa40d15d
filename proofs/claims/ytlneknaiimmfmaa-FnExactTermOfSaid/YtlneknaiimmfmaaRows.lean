/-
  No cell of these rows narrows 'for every input' (looked for: loops, veiled, ifaces, maps, wideKeys, modest, calm, conditions, laid).
  DERIVED. THE GIVEN ROWS OF THIS SEAT. 17 by the template 'for every input the law returns true; each argument reads behind the call as it read before'; 0 by the template 'total and deterministic' (their statements: YtlneknaiimmfmaaTotals.lean).
  GIVEN WITH THE SEED: the statements are not yours to turn. If you find one false, say at which input.
  Laid BY PROGRAM, IN A SANDBOX (cutbox-rows.mjs): the forced cells as the released guide's own fill.sh prints them over the translation 18ab4c1305a1a362… (all of the seat's roots in one cut). By AI agents, Wed Nov 11 2026. No macro, syntax, notation, axiom, sorry.
-/
import Derived.Test.YtlneknaiimmfmaaChecked
import GoSem.Claim
import GoSem.ClaimJoined
import GoSem.ClaimMapViews
import Derived.JoinedTies
import Derived.KernelRfl
namespace Go.Proofs.Ytlneknaiimmfmaa
/- THE CELL 'sum', in the pinned program and in every row, IS THE sha256 OF THE DUMP (.gsa) THAT YtlneknaiimmfmaaProg.lean LOADS. Nothing in Lean hashes anything: it is a label: what it is worth is what the hold of that sum in a sandbox is worth. -/
noncomputable def Try.pinned : Pinned := { name := "ytlneknaiimmfmaa", sum := "18ab4c1305a1a362851b206af1c7612d2d3a415f947749cb22a0bbc5bf3bff3c", checked := Try.checked }
namespace Rows
def none {H : Type} : Left H := { results := [], args := [] }

/-- 'laws.FnExactGoodTerm': WHATEVER THE INPUT: true; the input reads as it did. -/
def fnExactGoodTermSpec : ChangeSpec := { name := "fnExactGoodTerm", fn := fun _ => fun
  | [d] => { results := [.lit (.bool true)], args := [d] }
  | _ => none }
def fnExactGoodTermRow : OpenClaim := { program := "ytlneknaiimmfmaa", sum := "18ab4c1305a1a362851b206af1c7612d2d3a415f947749cb22a0bbc5bf3bff3c", func := "loop.example/g00694/laws.FnExactGoodTerm", spec := "fnExactGoodTerm", apart := false }
def FnExactGoodTermSaid : Prop := fnExactGoodTermRow.holds Try.pinned (OpenSpec.ofChange fnExactGoodTermSpec)

/-- ITS FALSE NEIGHBOUR: 'it returns false'. Refute it at one input. -/
def fnExactGoodTermWrong : ChangeSpec := { name := "fnExactGoodTerm", fn := fun _ => fun
  | [d] => { results := [.lit (.bool false)], args := [d] }
  | _ => none }
def FnExactGoodTermWrongFalsely : Prop := fnExactGoodTermRow.holds Try.pinned (OpenSpec.ofChange fnExactGoodTermWrong)

/-- 'laws.FnExactGoodPattern': WHATEVER THE INPUT: true; the input reads as it did. -/
def fnExactGoodPatternSpec : ChangeSpec := { name := "fnExactGoodPattern", fn := fun _ => fun
  | [d] => { results := [.lit (.bool true)], args := [d] }
  | _ => none }
def fnExactGoodPatternRow : OpenClaim := { program := "ytlneknaiimmfmaa", sum := "18ab4c1305a1a362851b206af1c7612d2d3a415f947749cb22a0bbc5bf3bff3c", func := "loop.example/g00694/laws.FnExactGoodPattern", spec := "fnExactGoodPattern", apart := false }
def FnExactGoodPatternSaid : Prop := fnExactGoodPatternRow.holds Try.pinned (OpenSpec.ofChange fnExactGoodPatternSpec)

/-- ITS FALSE NEIGHBOUR: 'it returns false'. Refute it at one input. -/
def fnExactGoodPatternWrong : ChangeSpec := { name := "fnExactGoodPattern", fn := fun _ => fun
  | [d] => { results := [.lit (.bool false)], args := [d] }
  | _ => none }
def FnExactGoodPatternWrongFalsely : Prop := fnExactGoodPatternRow.holds Try.pinned (OpenSpec.ofChange fnExactGoodPatternWrong)

/-- 'laws.FnExactGoodRule': WHATEVER THE INPUT: true; the input reads as it did. -/
def fnExactGoodRuleSpec : ChangeSpec := { name := "fnExactGoodRule", fn := fun _ => fun
  | [d] => { results := [.lit (.bool true)], args := [d] }
  | _ => none }
def fnExactGoodRuleRow : OpenClaim := { program := "ytlneknaiimmfmaa", sum := "18ab4c1305a1a362851b206af1c7612d2d3a415f947749cb22a0bbc5bf3bff3c", func := "loop.example/g00694/laws.FnExactGoodRule", spec := "fnExactGoodRule", apart := false }
def FnExactGoodRuleSaid : Prop := fnExactGoodRuleRow.holds Try.pinned (OpenSpec.ofChange fnExactGoodRuleSpec)

/-- ITS FALSE NEIGHBOUR: 'it returns false'. Refute it at one input. -/
def fnExactGoodRuleWrong : ChangeSpec := { name := "fnExactGoodRule", fn := fun _ => fun
  | [d] => { results := [.lit (.bool false)], args := [d] }
  | _ => none }
def FnExactGoodRuleWrongFalsely : Prop := fnExactGoodRuleRow.holds Try.pinned (OpenSpec.ofChange fnExactGoodRuleWrong)

/-- 'laws.FnExactPartAt': WHATEVER THE INPUT: true; the input reads as it did. -/
def fnExactPartAtSpec : ChangeSpec := { name := "fnExactPartAt", fn := fun _ => fun
  | [d1, d2] => { results := [.lit (.bool true)], args := [d1, d2] }
  | _ => none }
def fnExactPartAtRow : OpenClaim := { program := "ytlneknaiimmfmaa", sum := "18ab4c1305a1a362851b206af1c7612d2d3a415f947749cb22a0bbc5bf3bff3c", func := "loop.example/g00694/laws.FnExactPartAt", spec := "fnExactPartAt", recurses := true, apart := false }
def FnExactPartAtSaid : Prop := fnExactPartAtRow.holds Try.pinned (OpenSpec.ofChange fnExactPartAtSpec)

/-- ITS FALSE NEIGHBOUR: 'it returns false'. Refute it at one input. -/
def fnExactPartAtWrong : ChangeSpec := { name := "fnExactPartAt", fn := fun _ => fun
  | [d1, d2] => { results := [.lit (.bool false)], args := [d1, d2] }
  | _ => none }
def FnExactPartAtWrongFalsely : Prop := fnExactPartAtRow.holds Try.pinned (OpenSpec.ofChange fnExactPartAtWrong)

/-- 'laws.FnExactGoodPoly': WHATEVER THE INPUT: true; the input reads as it did. -/
def fnExactGoodPolySpec : ChangeSpec := { name := "fnExactGoodPoly", fn := fun _ => fun
  | [d] => { results := [.lit (.bool true)], args := [d] }
  | _ => none }
def fnExactGoodPolyRow : OpenClaim := { program := "ytlneknaiimmfmaa", sum := "18ab4c1305a1a362851b206af1c7612d2d3a415f947749cb22a0bbc5bf3bff3c", func := "loop.example/g00694/laws.FnExactGoodPoly", spec := "fnExactGoodPoly", unfollowed := true, recurses := true, apart := false }
def FnExactGoodPolySaid : Prop := fnExactGoodPolyRow.holds Try.pinned (OpenSpec.ofChange fnExactGoodPolySpec)

/-- ITS FALSE NEIGHBOUR: 'it returns false'. Refute it at one input. -/
def fnExactGoodPolyWrong : ChangeSpec := { name := "fnExactGoodPoly", fn := fun _ => fun
  | [d] => { results := [.lit (.bool false)], args := [d] }
  | _ => none }
def FnExactGoodPolyWrongFalsely : Prop := fnExactGoodPolyRow.holds Try.pinned (OpenSpec.ofChange fnExactGoodPolyWrong)

/-- 'laws.FnExactIsRing': WHATEVER THE INPUT: true; the input reads as it did. -/
def fnExactIsRingSpec : ChangeSpec := { name := "fnExactIsRing", fn := fun _ => fun
  | [d] => { results := [.lit (.bool true)], args := [d] }
  | _ => none }
def fnExactIsRingRow : OpenClaim := { program := "ytlneknaiimmfmaa", sum := "18ab4c1305a1a362851b206af1c7612d2d3a415f947749cb22a0bbc5bf3bff3c", func := "loop.example/g00694/laws.FnExactIsRing", spec := "fnExactIsRing", unfollowed := true, recurses := true, apart := false }
def FnExactIsRingSaid : Prop := fnExactIsRingRow.holds Try.pinned (OpenSpec.ofChange fnExactIsRingSpec)

/-- ITS FALSE NEIGHBOUR: 'it returns false'. Refute it at one input. -/
def fnExactIsRingWrong : ChangeSpec := { name := "fnExactIsRing", fn := fun _ => fun
  | [d] => { results := [.lit (.bool false)], args := [d] }
  | _ => none }
def FnExactIsRingWrongFalsely : Prop := fnExactIsRingRow.holds Try.pinned (OpenSpec.ofChange fnExactIsRingWrong)

/-- 'laws.FnExactCostOf': WHATEVER THE INPUT: true; the input reads as it did. -/
def fnExactCostOfSpec : ChangeSpec := { name := "fnExactCostOf", fn := fun _ => fun
  | [d] => { results := [.lit (.bool true)], args := [d] }
  | _ => none }
def fnExactCostOfRow : OpenClaim := { program := "ytlneknaiimmfmaa", sum := "18ab4c1305a1a362851b206af1c7612d2d3a415f947749cb22a0bbc5bf3bff3c", func := "loop.example/g00694/laws.FnExactCostOf", spec := "fnExactCostOf", apart := false }
def FnExactCostOfSaid : Prop := fnExactCostOfRow.holds Try.pinned (OpenSpec.ofChange fnExactCostOfSpec)

/-- ITS FALSE NEIGHBOUR: 'it returns false'. Refute it at one input. -/
def fnExactCostOfWrong : ChangeSpec := { name := "fnExactCostOf", fn := fun _ => fun
  | [d] => { results := [.lit (.bool false)], args := [d] }
  | _ => none }
def FnExactCostOfWrongFalsely : Prop := fnExactCostOfRow.holds Try.pinned (OpenSpec.ofChange fnExactCostOfWrong)

/-- 'laws.FnExactVarsIn': WHATEVER THE INPUT: true; the input reads as it did. -/
def fnExactVarsInSpec : ChangeSpec := { name := "fnExactVarsIn", fn := fun _ => fun
  | [d] => { results := [.lit (.bool true)], args := [d] }
  | _ => none }
def fnExactVarsInRow : OpenClaim := { program := "ytlneknaiimmfmaa", sum := "18ab4c1305a1a362851b206af1c7612d2d3a415f947749cb22a0bbc5bf3bff3c", func := "loop.example/g00694/laws.FnExactVarsIn", spec := "fnExactVarsIn", recurses := true, apart := false }
def FnExactVarsInSaid : Prop := fnExactVarsInRow.holds Try.pinned (OpenSpec.ofChange fnExactVarsInSpec)

/-- ITS FALSE NEIGHBOUR: 'it returns false'. Refute it at one input. -/
def fnExactVarsInWrong : ChangeSpec := { name := "fnExactVarsIn", fn := fun _ => fun
  | [d] => { results := [.lit (.bool false)], args := [d] }
  | _ => none }
def FnExactVarsInWrongFalsely : Prop := fnExactVarsInRow.holds Try.pinned (OpenSpec.ofChange fnExactVarsInWrong)

/-- 'laws.FnExactReplaceAt': WHATEVER THE INPUT: true; the input reads as it did. -/
def fnExactReplaceAtSpec : ChangeSpec := { name := "fnExactReplaceAt", fn := fun _ => fun
  | [d1, d2, d3] => { results := [.lit (.bool true)], args := [d1, d2, d3] }
  | _ => none }
def fnExactReplaceAtRow : OpenClaim := { program := "ytlneknaiimmfmaa", sum := "18ab4c1305a1a362851b206af1c7612d2d3a415f947749cb22a0bbc5bf3bff3c", func := "loop.example/g00694/laws.FnExactReplaceAt", spec := "fnExactReplaceAt", recurses := true, apart := false }
def FnExactReplaceAtSaid : Prop := fnExactReplaceAtRow.holds Try.pinned (OpenSpec.ofChange fnExactReplaceAtSpec)

/-- ITS FALSE NEIGHBOUR: 'it returns false'. Refute it at one input. -/
def fnExactReplaceAtWrong : ChangeSpec := { name := "fnExactReplaceAt", fn := fun _ => fun
  | [d1, d2, d3] => { results := [.lit (.bool false)], args := [d1, d2, d3] }
  | _ => none }
def FnExactReplaceAtWrongFalsely : Prop := fnExactReplaceAtRow.holds Try.pinned (OpenSpec.ofChange fnExactReplaceAtWrong)

/-- 'laws.FnExactEvalPoly': WHATEVER THE INPUT: true; the input reads as it did. -/
def fnExactEvalPolySpec : ChangeSpec := { name := "fnExactEvalPoly", fn := fun _ => fun
  | [d1, d2] => { results := [.lit (.bool true)], args := [d1, d2] }
  | _ => none }
def fnExactEvalPolyRow : OpenClaim := { program := "ytlneknaiimmfmaa", sum := "18ab4c1305a1a362851b206af1c7612d2d3a415f947749cb22a0bbc5bf3bff3c", func := "loop.example/g00694/laws.FnExactEvalPoly", spec := "fnExactEvalPoly", unfollowed := true, recurses := true, apart := false }
def FnExactEvalPolySaid : Prop := fnExactEvalPolyRow.holds Try.pinned (OpenSpec.ofChange fnExactEvalPolySpec)

/-- ITS FALSE NEIGHBOUR: 'it returns false'. Refute it at one input. -/
def fnExactEvalPolyWrong : ChangeSpec := { name := "fnExactEvalPoly", fn := fun _ => fun
  | [d1, d2] => { results := [.lit (.bool false)], args := [d1, d2] }
  | _ => none }
def FnExactEvalPolyWrongFalsely : Prop := fnExactEvalPolyRow.holds Try.pinned (OpenSpec.ofChange fnExactEvalPolyWrong)

/-- 'laws.FnExactSureVars': WHATEVER THE INPUT: true; the input reads as it did. -/
def fnExactSureVarsSpec : ChangeSpec := { name := "fnExactSureVars", fn := fun _ => fun
  | [d] => { results := [.lit (.bool true)], args := [d] }
  | _ => none }
def fnExactSureVarsRow : OpenClaim := { program := "ytlneknaiimmfmaa", sum := "18ab4c1305a1a362851b206af1c7612d2d3a415f947749cb22a0bbc5bf3bff3c", func := "loop.example/g00694/laws.FnExactSureVars", spec := "fnExactSureVars", recurses := true, apart := false }
def FnExactSureVarsSaid : Prop := fnExactSureVarsRow.holds Try.pinned (OpenSpec.ofChange fnExactSureVarsSpec)

/-- ITS FALSE NEIGHBOUR: 'it returns false'. Refute it at one input. -/
def fnExactSureVarsWrong : ChangeSpec := { name := "fnExactSureVars", fn := fun _ => fun
  | [d] => { results := [.lit (.bool false)], args := [d] }
  | _ => none }
def FnExactSureVarsWrongFalsely : Prop := fnExactSureVarsRow.holds Try.pinned (OpenSpec.ofChange fnExactSureVarsWrong)

/-- 'laws.FnExactPutAll': WHATEVER THE INPUT: true; the input reads as it did. -/
def fnExactPutAllSpec : ChangeSpec := { name := "fnExactPutAll", fn := fun _ => fun
  | [d1, d2] => { results := [.lit (.bool true)], args := [d1, d2] }
  | _ => none }
def fnExactPutAllRow : OpenClaim := { program := "ytlneknaiimmfmaa", sum := "18ab4c1305a1a362851b206af1c7612d2d3a415f947749cb22a0bbc5bf3bff3c", func := "loop.example/g00694/laws.FnExactPutAll", spec := "fnExactPutAll", unfollowed := true, recurses := true, apart := false }
def FnExactPutAllSaid : Prop := fnExactPutAllRow.holds Try.pinned (OpenSpec.ofChange fnExactPutAllSpec)

/-- ITS FALSE NEIGHBOUR: 'it returns false'. Refute it at one input. -/
def fnExactPutAllWrong : ChangeSpec := { name := "fnExactPutAll", fn := fun _ => fun
  | [d1, d2] => { results := [.lit (.bool false)], args := [d1, d2] }
  | _ => none }
def FnExactPutAllWrongFalsely : Prop := fnExactPutAllRow.holds Try.pinned (OpenSpec.ofChange fnExactPutAllWrong)

/-- 'laws.FnExactJoinTerm': WHATEVER THE INPUT: true; the input reads as it did. -/
def fnExactJoinTermSpec : ChangeSpec := { name := "fnExactJoinTerm", fn := fun _ => fun
  | [d1, d2] => { results := [.lit (.bool true)], args := [d1, d2] }
  | _ => none }
def fnExactJoinTermRow : OpenClaim := { program := "ytlneknaiimmfmaa", sum := "18ab4c1305a1a362851b206af1c7612d2d3a415f947749cb22a0bbc5bf3bff3c", func := "loop.example/g00694/laws.FnExactJoinTerm", spec := "fnExactJoinTerm", unfollowed := true, recurses := true, apart := false }
def FnExactJoinTermSaid : Prop := fnExactJoinTermRow.holds Try.pinned (OpenSpec.ofChange fnExactJoinTermSpec)

/-- ITS FALSE NEIGHBOUR: 'it returns false'. Refute it at one input. -/
def fnExactJoinTermWrong : ChangeSpec := { name := "fnExactJoinTerm", fn := fun _ => fun
  | [d1, d2] => { results := [.lit (.bool false)], args := [d1, d2] }
  | _ => none }
def FnExactJoinTermWrongFalsely : Prop := fnExactJoinTermRow.holds Try.pinned (OpenSpec.ofChange fnExactJoinTermWrong)

/-- 'laws.FnExactSameRule': WHATEVER THE INPUT: true; the input reads as it did. -/
def fnExactSameRuleSpec : ChangeSpec := { name := "fnExactSameRule", fn := fun _ => fun
  | [d1, d2] => { results := [.lit (.bool true)], args := [d1, d2] }
  | _ => none }
def fnExactSameRuleRow : OpenClaim := { program := "ytlneknaiimmfmaa", sum := "18ab4c1305a1a362851b206af1c7612d2d3a415f947749cb22a0bbc5bf3bff3c", func := "loop.example/g00694/laws.FnExactSameRule", spec := "fnExactSameRule", unfollowed := true, recurses := true, apart := false }
def FnExactSameRuleSaid : Prop := fnExactSameRuleRow.holds Try.pinned (OpenSpec.ofChange fnExactSameRuleSpec)

/-- ITS FALSE NEIGHBOUR: 'it returns false'. Refute it at one input. -/
def fnExactSameRuleWrong : ChangeSpec := { name := "fnExactSameRule", fn := fun _ => fun
  | [d1, d2] => { results := [.lit (.bool false)], args := [d1, d2] }
  | _ => none }
def FnExactSameRuleWrongFalsely : Prop := fnExactSameRuleRow.holds Try.pinned (OpenSpec.ofChange fnExactSameRuleWrong)

/-- 'laws.FnExactEvalTerm': WHATEVER THE INPUT: true; the input reads as it did. -/
def fnExactEvalTermSpec : ChangeSpec := { name := "fnExactEvalTerm", fn := fun _ => fun
  | [d1, d2] => { results := [.lit (.bool true)], args := [d1, d2] }
  | _ => none }
def fnExactEvalTermRow : OpenClaim := { program := "ytlneknaiimmfmaa", sum := "18ab4c1305a1a362851b206af1c7612d2d3a415f947749cb22a0bbc5bf3bff3c", func := "loop.example/g00694/laws.FnExactEvalTerm", spec := "fnExactEvalTerm", recurses := true, apart := false }
def FnExactEvalTermSaid : Prop := fnExactEvalTermRow.holds Try.pinned (OpenSpec.ofChange fnExactEvalTermSpec)

/-- ITS FALSE NEIGHBOUR: 'it returns false'. Refute it at one input. -/
def fnExactEvalTermWrong : ChangeSpec := { name := "fnExactEvalTerm", fn := fun _ => fun
  | [d1, d2] => { results := [.lit (.bool false)], args := [d1, d2] }
  | _ => none }
def FnExactEvalTermWrongFalsely : Prop := fnExactEvalTermRow.holds Try.pinned (OpenSpec.ofChange fnExactEvalTermWrong)

/-- 'laws.FnExactHoldsAt': WHATEVER THE INPUT: true; the input reads as it did. -/
def fnExactHoldsAtSpec : ChangeSpec := { name := "fnExactHoldsAt", fn := fun _ => fun
  | [d1, d2] => { results := [.lit (.bool true)], args := [d1, d2] }
  | _ => none }
def fnExactHoldsAtRow : OpenClaim := { program := "ytlneknaiimmfmaa", sum := "18ab4c1305a1a362851b206af1c7612d2d3a415f947749cb22a0bbc5bf3bff3c", func := "loop.example/g00694/laws.FnExactHoldsAt", spec := "fnExactHoldsAt", recurses := true, apart := false }
def FnExactHoldsAtSaid : Prop := fnExactHoldsAtRow.holds Try.pinned (OpenSpec.ofChange fnExactHoldsAtSpec)

/-- ITS FALSE NEIGHBOUR: 'it returns false'. Refute it at one input. -/
def fnExactHoldsAtWrong : ChangeSpec := { name := "fnExactHoldsAt", fn := fun _ => fun
  | [d1, d2] => { results := [.lit (.bool false)], args := [d1, d2] }
  | _ => none }
def FnExactHoldsAtWrongFalsely : Prop := fnExactHoldsAtRow.holds Try.pinned (OpenSpec.ofChange fnExactHoldsAtWrong)

/-- 'laws.FnExactTermOf': WHATEVER THE INPUT: true; the input reads as it did. -/
def fnExactTermOfSpec : ChangeSpec := { name := "fnExactTermOf", fn := fun _ => fun
  | [d] => { results := [.lit (.bool true)], args := [d] }
  | _ => none }
def fnExactTermOfRow : OpenClaim := { program := "ytlneknaiimmfmaa", sum := "18ab4c1305a1a362851b206af1c7612d2d3a415f947749cb22a0bbc5bf3bff3c", func := "loop.example/g00694/laws.FnExactTermOf", spec := "fnExactTermOf", unfollowed := true, recurses := true, apart := false }
def FnExactTermOfSaid : Prop := fnExactTermOfRow.holds Try.pinned (OpenSpec.ofChange fnExactTermOfSpec)

/-- ITS FALSE NEIGHBOUR: 'it returns false'. Refute it at one input. -/
def fnExactTermOfWrong : ChangeSpec := { name := "fnExactTermOf", fn := fun _ => fun
  | [d] => { results := [.lit (.bool false)], args := [d] }
  | _ => none }
def FnExactTermOfWrongFalsely : Prop := fnExactTermOfRow.holds Try.pinned (OpenSpec.ofChange fnExactTermOfWrong)

/- THE SECOND FORM. 'bulk': how many values and letters a reading holds, each counted each time it is reached (what is shared counts as often as it is met; a slice's spare places count too). A statement '..UptoSaid' is the law's where the arguments, and the package variables that the reading takes, are together of bulk at most 1048576: NARROWER than '..Said'. Prove '..Said' where nothing that the law and all that it calls make is longer than what came in: it says more and counts as full. Else prove '..UptoSaid'. A law counts once. -/
mutual
def uptoBulk {H : Type} : DataW H → Nat
  | .lit (.string bytes) => bytes.length + 1
  | .lit _ => 1
  | .nil => 1
  | .ptr d => uptoBulk d + 1
  | .slice elems spare => uptoBulkAll elems + uptoBulkAll spare + 1
  | .agg parts => uptoBulkAll parts + 1
  | .iface _ d => uptoBulk d + 1
  | .map entries => uptoBulkEntries entries + 1
  | .held _ => 1
def uptoBulkAll {H : Type} : List (DataW H) → Nat
  | [] => 0
  | d :: r => uptoBulk d + uptoBulkAll r
def uptoBulkEntries {H : Type} : List (Lit × DataW H) → Nat
  | [] => 0
  | x :: r => uptoBulkEntry x + uptoBulkEntries r
def uptoBulkEntry {H : Type} : Lit × DataW H → Nat
  | (.string bytes, d) => bytes.length + uptoBulk d + 1
  | (_, d) => uptoBulk d + 1
 end
def uptoSmall : (H : Type) → List (DataW H) → Bool := fun _ ds => decide (uptoBulkAll ds ≤ 1048576)
def OpenSpec.upto (s : _root_.Go.ChangeSpec) : _root_.Go.OpenSpec := { _root_.Go.OpenSpec.ofChange s with cond := some uptoSmall }

/-- 'laws.FnExactGoodTerm', WHERE WHAT IT READS IS OF BULK AT MOST 1048576: true; the input reads as it did. -/
def fnExactGoodTermUptoRow : OpenClaim := { program := "ytlneknaiimmfmaa", sum := "18ab4c1305a1a362851b206af1c7612d2d3a415f947749cb22a0bbc5bf3bff3c", func := "loop.example/g00694/laws.FnExactGoodTerm", spec := "fnExactGoodTerm", apart := false, narrowed := true }
def FnExactGoodTermUptoSaid : Prop := fnExactGoodTermUptoRow.holds Try.pinned (OpenSpec.upto fnExactGoodTermSpec)

/-- 'laws.FnExactGoodPattern', WHERE WHAT IT READS IS OF BULK AT MOST 1048576: true; the input reads as it did. -/
def fnExactGoodPatternUptoRow : OpenClaim := { program := "ytlneknaiimmfmaa", sum := "18ab4c1305a1a362851b206af1c7612d2d3a415f947749cb22a0bbc5bf3bff3c", func := "loop.example/g00694/laws.FnExactGoodPattern", spec := "fnExactGoodPattern", apart := false, narrowed := true }
def FnExactGoodPatternUptoSaid : Prop := fnExactGoodPatternUptoRow.holds Try.pinned (OpenSpec.upto fnExactGoodPatternSpec)

/-- 'laws.FnExactGoodRule', WHERE WHAT IT READS IS OF BULK AT MOST 1048576: true; the input reads as it did. -/
def fnExactGoodRuleUptoRow : OpenClaim := { program := "ytlneknaiimmfmaa", sum := "18ab4c1305a1a362851b206af1c7612d2d3a415f947749cb22a0bbc5bf3bff3c", func := "loop.example/g00694/laws.FnExactGoodRule", spec := "fnExactGoodRule", apart := false, narrowed := true }
def FnExactGoodRuleUptoSaid : Prop := fnExactGoodRuleUptoRow.holds Try.pinned (OpenSpec.upto fnExactGoodRuleSpec)

/-- 'laws.FnExactPartAt', WHERE WHAT IT READS IS OF BULK AT MOST 1048576: true; the input reads as it did. -/
def fnExactPartAtUptoRow : OpenClaim := { program := "ytlneknaiimmfmaa", sum := "18ab4c1305a1a362851b206af1c7612d2d3a415f947749cb22a0bbc5bf3bff3c", func := "loop.example/g00694/laws.FnExactPartAt", spec := "fnExactPartAt", recurses := true, apart := false, narrowed := true }
def FnExactPartAtUptoSaid : Prop := fnExactPartAtUptoRow.holds Try.pinned (OpenSpec.upto fnExactPartAtSpec)

/-- 'laws.FnExactGoodPoly', WHERE WHAT IT READS IS OF BULK AT MOST 1048576: true; the input reads as it did. -/
def fnExactGoodPolyUptoRow : OpenClaim := { program := "ytlneknaiimmfmaa", sum := "18ab4c1305a1a362851b206af1c7612d2d3a415f947749cb22a0bbc5bf3bff3c", func := "loop.example/g00694/laws.FnExactGoodPoly", spec := "fnExactGoodPoly", unfollowed := true, recurses := true, apart := false, narrowed := true }
def FnExactGoodPolyUptoSaid : Prop := fnExactGoodPolyUptoRow.holds Try.pinned (OpenSpec.upto fnExactGoodPolySpec)

/-- 'laws.FnExactIsRing', WHERE WHAT IT READS IS OF BULK AT MOST 1048576: true; the input reads as it did. -/
def fnExactIsRingUptoRow : OpenClaim := { program := "ytlneknaiimmfmaa", sum := "18ab4c1305a1a362851b206af1c7612d2d3a415f947749cb22a0bbc5bf3bff3c", func := "loop.example/g00694/laws.FnExactIsRing", spec := "fnExactIsRing", unfollowed := true, recurses := true, apart := false, narrowed := true }
def FnExactIsRingUptoSaid : Prop := fnExactIsRingUptoRow.holds Try.pinned (OpenSpec.upto fnExactIsRingSpec)

/-- 'laws.FnExactCostOf', WHERE WHAT IT READS IS OF BULK AT MOST 1048576: true; the input reads as it did. -/
def fnExactCostOfUptoRow : OpenClaim := { program := "ytlneknaiimmfmaa", sum := "18ab4c1305a1a362851b206af1c7612d2d3a415f947749cb22a0bbc5bf3bff3c", func := "loop.example/g00694/laws.FnExactCostOf", spec := "fnExactCostOf", apart := false, narrowed := true }
def FnExactCostOfUptoSaid : Prop := fnExactCostOfUptoRow.holds Try.pinned (OpenSpec.upto fnExactCostOfSpec)

/-- 'laws.FnExactVarsIn', WHERE WHAT IT READS IS OF BULK AT MOST 1048576: true; the input reads as it did. -/
def fnExactVarsInUptoRow : OpenClaim := { program := "ytlneknaiimmfmaa", sum := "18ab4c1305a1a362851b206af1c7612d2d3a415f947749cb22a0bbc5bf3bff3c", func := "loop.example/g00694/laws.FnExactVarsIn", spec := "fnExactVarsIn", recurses := true, apart := false, narrowed := true }
def FnExactVarsInUptoSaid : Prop := fnExactVarsInUptoRow.holds Try.pinned (OpenSpec.upto fnExactVarsInSpec)

/-- 'laws.FnExactReplaceAt', WHERE WHAT IT READS IS OF BULK AT MOST 1048576: true; the input reads as it did. -/
def fnExactReplaceAtUptoRow : OpenClaim := { program := "ytlneknaiimmfmaa", sum := "18ab4c1305a1a362851b206af1c7612d2d3a415f947749cb22a0bbc5bf3bff3c", func := "loop.example/g00694/laws.FnExactReplaceAt", spec := "fnExactReplaceAt", recurses := true, apart := false, narrowed := true }
def FnExactReplaceAtUptoSaid : Prop := fnExactReplaceAtUptoRow.holds Try.pinned (OpenSpec.upto fnExactReplaceAtSpec)

/-- 'laws.FnExactEvalPoly', WHERE WHAT IT READS IS OF BULK AT MOST 1048576: true; the input reads as it did. -/
def fnExactEvalPolyUptoRow : OpenClaim := { program := "ytlneknaiimmfmaa", sum := "18ab4c1305a1a362851b206af1c7612d2d3a415f947749cb22a0bbc5bf3bff3c", func := "loop.example/g00694/laws.FnExactEvalPoly", spec := "fnExactEvalPoly", unfollowed := true, recurses := true, apart := false, narrowed := true }
def FnExactEvalPolyUptoSaid : Prop := fnExactEvalPolyUptoRow.holds Try.pinned (OpenSpec.upto fnExactEvalPolySpec)

/-- 'laws.FnExactSureVars', WHERE WHAT IT READS IS OF BULK AT MOST 1048576: true; the input reads as it did. -/
def fnExactSureVarsUptoRow : OpenClaim := { program := "ytlneknaiimmfmaa", sum := "18ab4c1305a1a362851b206af1c7612d2d3a415f947749cb22a0bbc5bf3bff3c", func := "loop.example/g00694/laws.FnExactSureVars", spec := "fnExactSureVars", recurses := true, apart := false, narrowed := true }
def FnExactSureVarsUptoSaid : Prop := fnExactSureVarsUptoRow.holds Try.pinned (OpenSpec.upto fnExactSureVarsSpec)

/-- 'laws.FnExactPutAll', WHERE WHAT IT READS IS OF BULK AT MOST 1048576: true; the input reads as it did. -/
def fnExactPutAllUptoRow : OpenClaim := { program := "ytlneknaiimmfmaa", sum := "18ab4c1305a1a362851b206af1c7612d2d3a415f947749cb22a0bbc5bf3bff3c", func := "loop.example/g00694/laws.FnExactPutAll", spec := "fnExactPutAll", unfollowed := true, recurses := true, apart := false, narrowed := true }
def FnExactPutAllUptoSaid : Prop := fnExactPutAllUptoRow.holds Try.pinned (OpenSpec.upto fnExactPutAllSpec)

/-- 'laws.FnExactJoinTerm', WHERE WHAT IT READS IS OF BULK AT MOST 1048576: true; the input reads as it did. -/
def fnExactJoinTermUptoRow : OpenClaim := { program := "ytlneknaiimmfmaa", sum := "18ab4c1305a1a362851b206af1c7612d2d3a415f947749cb22a0bbc5bf3bff3c", func := "loop.example/g00694/laws.FnExactJoinTerm", spec := "fnExactJoinTerm", unfollowed := true, recurses := true, apart := false, narrowed := true }
def FnExactJoinTermUptoSaid : Prop := fnExactJoinTermUptoRow.holds Try.pinned (OpenSpec.upto fnExactJoinTermSpec)

/-- 'laws.FnExactSameRule', WHERE WHAT IT READS IS OF BULK AT MOST 1048576: true; the input reads as it did. -/
def fnExactSameRuleUptoRow : OpenClaim := { program := "ytlneknaiimmfmaa", sum := "18ab4c1305a1a362851b206af1c7612d2d3a415f947749cb22a0bbc5bf3bff3c", func := "loop.example/g00694/laws.FnExactSameRule", spec := "fnExactSameRule", unfollowed := true, recurses := true, apart := false, narrowed := true }
def FnExactSameRuleUptoSaid : Prop := fnExactSameRuleUptoRow.holds Try.pinned (OpenSpec.upto fnExactSameRuleSpec)

/-- 'laws.FnExactEvalTerm', WHERE WHAT IT READS IS OF BULK AT MOST 1048576: true; the input reads as it did. -/
def fnExactEvalTermUptoRow : OpenClaim := { program := "ytlneknaiimmfmaa", sum := "18ab4c1305a1a362851b206af1c7612d2d3a415f947749cb22a0bbc5bf3bff3c", func := "loop.example/g00694/laws.FnExactEvalTerm", spec := "fnExactEvalTerm", recurses := true, apart := false, narrowed := true }
def FnExactEvalTermUptoSaid : Prop := fnExactEvalTermUptoRow.holds Try.pinned (OpenSpec.upto fnExactEvalTermSpec)

/-- 'laws.FnExactHoldsAt', WHERE WHAT IT READS IS OF BULK AT MOST 1048576: true; the input reads as it did. -/
def fnExactHoldsAtUptoRow : OpenClaim := { program := "ytlneknaiimmfmaa", sum := "18ab4c1305a1a362851b206af1c7612d2d3a415f947749cb22a0bbc5bf3bff3c", func := "loop.example/g00694/laws.FnExactHoldsAt", spec := "fnExactHoldsAt", recurses := true, apart := false, narrowed := true }
def FnExactHoldsAtUptoSaid : Prop := fnExactHoldsAtUptoRow.holds Try.pinned (OpenSpec.upto fnExactHoldsAtSpec)

/-- 'laws.FnExactTermOf', WHERE WHAT IT READS IS OF BULK AT MOST 1048576: true; the input reads as it did. -/
def fnExactTermOfUptoRow : OpenClaim := { program := "ytlneknaiimmfmaa", sum := "18ab4c1305a1a362851b206af1c7612d2d3a415f947749cb22a0bbc5bf3bff3c", func := "loop.example/g00694/laws.FnExactTermOf", spec := "fnExactTermOf", unfollowed := true, recurses := true, apart := false, narrowed := true }
def FnExactTermOfUptoSaid : Prop := fnExactTermOfUptoRow.holds Try.pinned (OpenSpec.upto fnExactTermOfSpec)

end Rows
end Go.Proofs.Ytlneknaiimmfmaa
