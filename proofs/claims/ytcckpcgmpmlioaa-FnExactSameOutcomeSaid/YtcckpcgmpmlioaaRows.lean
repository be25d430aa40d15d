/-
  No cell of these rows narrows 'for every input' (looked for: loops, veiled, ifaces, maps, wideKeys, modest, calm, conditions, laid).
  DERIVED. THE GIVEN ROWS OF THIS SEAT. 16 by the template 'for every input the law returns true; each argument reads behind the call as it read before'; 0 by the template 'total and deterministic' (their statements: YtcckpcgmpmlioaaTotals.lean).
  GIVEN WITH THE SEED: the statements are not yours to turn. If you find one false, say at which input.
  Laid BY PROGRAM, IN A SANDBOX (cutbox-rows.mjs): the forced cells as the released guide's own fill.sh prints them over the translation c2f38d728a084058… (all of the seat's roots in one cut). By AI agents, Wed Nov 11 2026. No macro, syntax, notation, axiom, sorry.
-/
import Derived.Test.YtcckpcgmpmlioaaChecked
import GoSem.Claim
import GoSem.ClaimJoined
import GoSem.ClaimMapViews
import Derived.JoinedTies
import Derived.KernelRfl
namespace Go.Proofs.Ytcckpcgmpmlioaa
/- THE CELL 'sum', in the pinned program and in every row, IS THE sha256 OF THE DUMP (.gsa) THAT YtcckpcgmpmlioaaProg.lean LOADS. Nothing in Lean hashes anything: it is a label: what it is worth is what the hold of that sum in a sandbox is worth. -/
noncomputable def Try.pinned : Pinned := { name := "ytcckpcgmpmlioaa", sum := "c2f38d728a08405804e1e7598e130a21cb7d190d91c4940083ab1ff52959e380", checked := Try.checked }
namespace Rows
def none {H : Type} : Left H := { results := [], args := [] }

/-- 'laws.FnExactConstants': WHATEVER THE INPUT: true; the input reads as it did. -/
def fnExactConstantsSpec : ChangeSpec := { name := "fnExactConstants", fn := fun _ => fun
  | [] => { results := [.lit (.bool true)], args := [] }
  | _ => none }
def fnExactConstantsRow : OpenClaim := { program := "ytcckpcgmpmlioaa", sum := "c2f38d728a08405804e1e7598e130a21cb7d190d91c4940083ab1ff52959e380", func := "loop.example/g00694/laws.FnExactConstants", spec := "fnExactConstants", apart := false }
def FnExactConstantsSaid : Prop := fnExactConstantsRow.holds Try.pinned (OpenSpec.ofChange fnExactConstantsSpec)

/-- ITS FALSE NEIGHBOUR: 'it returns false'. Refute it at one input. -/
def fnExactConstantsWrong : ChangeSpec := { name := "fnExactConstants", fn := fun _ => fun
  | [] => { results := [.lit (.bool false)], args := [] }
  | _ => none }
def FnExactConstantsWrongFalsely : Prop := fnExactConstantsRow.holds Try.pinned (OpenSpec.ofChange fnExactConstantsWrong)

/-- 'laws.FnExactPowerOf': WHATEVER THE INPUT: true; the input reads as it did. -/
def fnExactPowerOfSpec : ChangeSpec := { name := "fnExactPowerOf", fn := fun _ => fun
  | [d1, d2] => { results := [.lit (.bool true)], args := [d1, d2] }
  | _ => none }
def fnExactPowerOfRow : OpenClaim := { program := "ytcckpcgmpmlioaa", sum := "c2f38d728a08405804e1e7598e130a21cb7d190d91c4940083ab1ff52959e380", func := "loop.example/g00694/laws.FnExactPowerOf", spec := "fnExactPowerOf", apart := false }
def FnExactPowerOfSaid : Prop := fnExactPowerOfRow.holds Try.pinned (OpenSpec.ofChange fnExactPowerOfSpec)

/-- ITS FALSE NEIGHBOUR: 'it returns false'. Refute it at one input. -/
def fnExactPowerOfWrong : ChangeSpec := { name := "fnExactPowerOf", fn := fun _ => fun
  | [d1, d2] => { results := [.lit (.bool false)], args := [d1, d2] }
  | _ => none }
def FnExactPowerOfWrongFalsely : Prop := fnExactPowerOfRow.holds Try.pinned (OpenSpec.ofChange fnExactPowerOfWrong)

/-- 'laws.FnExactGoodParents': WHATEVER THE INPUT: true; the input reads as it did. -/
def fnExactGoodParentsSpec : ChangeSpec := { name := "fnExactGoodParents", fn := fun _ => fun
  | [d] => { results := [.lit (.bool true)], args := [d] }
  | _ => none }
def fnExactGoodParentsRow : OpenClaim := { program := "ytcckpcgmpmlioaa", sum := "c2f38d728a08405804e1e7598e130a21cb7d190d91c4940083ab1ff52959e380", func := "loop.example/g00694/laws.FnExactGoodParents", spec := "fnExactGoodParents", apart := false }
def FnExactGoodParentsSaid : Prop := fnExactGoodParentsRow.holds Try.pinned (OpenSpec.ofChange fnExactGoodParentsSpec)

/-- ITS FALSE NEIGHBOUR: 'it returns false'. Refute it at one input. -/
def fnExactGoodParentsWrong : ChangeSpec := { name := "fnExactGoodParents", fn := fun _ => fun
  | [d] => { results := [.lit (.bool false)], args := [d] }
  | _ => none }
def FnExactGoodParentsWrongFalsely : Prop := fnExactGoodParentsRow.holds Try.pinned (OpenSpec.ofChange fnExactGoodParentsWrong)

/-- 'laws.FnExactArityOf': WHATEVER THE INPUT: true; the input reads as it did. -/
def fnExactArityOfSpec : ChangeSpec := { name := "fnExactArityOf", fn := fun _ => fun
  | [d] => { results := [.lit (.bool true)], args := [d] }
  | _ => none }
def fnExactArityOfRow : OpenClaim := { program := "ytcckpcgmpmlioaa", sum := "c2f38d728a08405804e1e7598e130a21cb7d190d91c4940083ab1ff52959e380", func := "loop.example/g00694/laws.FnExactArityOf", spec := "fnExactArityOf", apart := false }
def FnExactArityOfSaid : Prop := fnExactArityOfRow.holds Try.pinned (OpenSpec.ofChange fnExactArityOfSpec)

/-- ITS FALSE NEIGHBOUR: 'it returns false'. Refute it at one input. -/
def fnExactArityOfWrong : ChangeSpec := { name := "fnExactArityOf", fn := fun _ => fun
  | [d] => { results := [.lit (.bool false)], args := [d] }
  | _ => none }
def FnExactArityOfWrongFalsely : Prop := fnExactArityOfRow.holds Try.pinned (OpenSpec.ofChange fnExactArityOfWrong)

/-- 'laws.FnExactGoodParts': WHATEVER THE INPUT: true; the input reads as it did. -/
def fnExactGoodPartsSpec : ChangeSpec := { name := "fnExactGoodParts", fn := fun _ => fun
  | [d] => { results := [.lit (.bool true)], args := [d] }
  | _ => none }
def fnExactGoodPartsRow : OpenClaim := { program := "ytcckpcgmpmlioaa", sum := "c2f38d728a08405804e1e7598e130a21cb7d190d91c4940083ab1ff52959e380", func := "loop.example/g00694/laws.FnExactGoodParts", spec := "fnExactGoodParts", unfollowed := true, recurses := true, apart := false }
def FnExactGoodPartsSaid : Prop := fnExactGoodPartsRow.holds Try.pinned (OpenSpec.ofChange fnExactGoodPartsSpec)

/-- ITS FALSE NEIGHBOUR: 'it returns false'. Refute it at one input. -/
def fnExactGoodPartsWrong : ChangeSpec := { name := "fnExactGoodParts", fn := fun _ => fun
  | [d] => { results := [.lit (.bool false)], args := [d] }
  | _ => none }
def FnExactGoodPartsWrongFalsely : Prop := fnExactGoodPartsRow.holds Try.pinned (OpenSpec.ofChange fnExactGoodPartsWrong)

/-- 'laws.FnExactCostOfOp': WHATEVER THE INPUT: true; the input reads as it did. -/
def fnExactCostOfOpSpec : ChangeSpec := { name := "fnExactCostOfOp", fn := fun _ => fun
  | [d] => { results := [.lit (.bool true)], args := [d] }
  | _ => none }
def fnExactCostOfOpRow : OpenClaim := { program := "ytcckpcgmpmlioaa", sum := "c2f38d728a08405804e1e7598e130a21cb7d190d91c4940083ab1ff52959e380", func := "loop.example/g00694/laws.FnExactCostOfOp", spec := "fnExactCostOfOp", apart := false }
def FnExactCostOfOpSaid : Prop := fnExactCostOfOpRow.holds Try.pinned (OpenSpec.ofChange fnExactCostOfOpSpec)

/-- ITS FALSE NEIGHBOUR: 'it returns false'. Refute it at one input. -/
def fnExactCostOfOpWrong : ChangeSpec := { name := "fnExactCostOfOp", fn := fun _ => fun
  | [d] => { results := [.lit (.bool false)], args := [d] }
  | _ => none }
def FnExactCostOfOpWrongFalsely : Prop := fnExactCostOfOpRow.holds Try.pinned (OpenSpec.ofChange fnExactCostOfOpWrong)

/-- 'laws.FnExactFindRoot': WHATEVER THE INPUT: true; the input reads as it did. -/
def fnExactFindRootSpec : ChangeSpec := { name := "fnExactFindRoot", fn := fun _ => fun
  | [d1, d2] => { results := [.lit (.bool true)], args := [d1, d2] }
  | _ => none }
def fnExactFindRootRow : OpenClaim := { program := "ytcckpcgmpmlioaa", sum := "c2f38d728a08405804e1e7598e130a21cb7d190d91c4940083ab1ff52959e380", func := "loop.example/g00694/laws.FnExactFindRoot", spec := "fnExactFindRoot", apart := false }
def FnExactFindRootSaid : Prop := fnExactFindRootRow.holds Try.pinned (OpenSpec.ofChange fnExactFindRootSpec)

/-- ITS FALSE NEIGHBOUR: 'it returns false'. Refute it at one input. -/
def fnExactFindRootWrong : ChangeSpec := { name := "fnExactFindRoot", fn := fun _ => fun
  | [d1, d2] => { results := [.lit (.bool false)], args := [d1, d2] }
  | _ => none }
def FnExactFindRootWrongFalsely : Prop := fnExactFindRootRow.holds Try.pinned (OpenSpec.ofChange fnExactFindRootWrong)

/-- 'laws.FnExactIsFinerParts': WHATEVER THE INPUT: true; the input reads as it did. -/
def fnExactIsFinerPartsSpec : ChangeSpec := { name := "fnExactIsFinerParts", fn := fun _ => fun
  | [d1, d2] => { results := [.lit (.bool true)], args := [d1, d2] }
  | _ => none }
def fnExactIsFinerPartsRow : OpenClaim := { program := "ytcckpcgmpmlioaa", sum := "c2f38d728a08405804e1e7598e130a21cb7d190d91c4940083ab1ff52959e380", func := "loop.example/g00694/laws.FnExactIsFinerParts", spec := "fnExactIsFinerParts", unfollowed := true, recurses := true, apart := false }
def FnExactIsFinerPartsSaid : Prop := fnExactIsFinerPartsRow.holds Try.pinned (OpenSpec.ofChange fnExactIsFinerPartsSpec)

/-- ITS FALSE NEIGHBOUR: 'it returns false'. Refute it at one input. -/
def fnExactIsFinerPartsWrong : ChangeSpec := { name := "fnExactIsFinerParts", fn := fun _ => fun
  | [d1, d2] => { results := [.lit (.bool false)], args := [d1, d2] }
  | _ => none }
def FnExactIsFinerPartsWrongFalsely : Prop := fnExactIsFinerPartsRow.holds Try.pinned (OpenSpec.ofChange fnExactIsFinerPartsWrong)

/-- 'laws.FnExactCountParts': WHATEVER THE INPUT: true; the input reads as it did. -/
def fnExactCountPartsSpec : ChangeSpec := { name := "fnExactCountParts", fn := fun _ => fun
  | [d] => { results := [.lit (.bool true)], args := [d] }
  | _ => none }
def fnExactCountPartsRow : OpenClaim := { program := "ytcckpcgmpmlioaa", sum := "c2f38d728a08405804e1e7598e130a21cb7d190d91c4940083ab1ff52959e380", func := "loop.example/g00694/laws.FnExactCountParts", spec := "fnExactCountParts", unfollowed := true, recurses := true, apart := false }
def FnExactCountPartsSaid : Prop := fnExactCountPartsRow.holds Try.pinned (OpenSpec.ofChange fnExactCountPartsSpec)

/-- ITS FALSE NEIGHBOUR: 'it returns false'. Refute it at one input. -/
def fnExactCountPartsWrong : ChangeSpec := { name := "fnExactCountParts", fn := fun _ => fun
  | [d] => { results := [.lit (.bool false)], args := [d] }
  | _ => none }
def FnExactCountPartsWrongFalsely : Prop := fnExactCountPartsRow.holds Try.pinned (OpenSpec.ofChange fnExactCountPartsWrong)

/-- 'laws.FnExactSameOutcome': WHATEVER THE INPUT: true; the input reads as it did. -/
def fnExactSameOutcomeSpec : ChangeSpec := { name := "fnExactSameOutcome", fn := fun _ => fun
  | [d1, d2] => { results := [.lit (.bool true)], args := [d1, d2] }
  | _ => none }
def fnExactSameOutcomeRow : OpenClaim := { program := "ytcckpcgmpmlioaa", sum := "c2f38d728a08405804e1e7598e130a21cb7d190d91c4940083ab1ff52959e380", func := "loop.example/g00694/laws.FnExactSameOutcome", spec := "fnExactSameOutcome", apart := false }
def FnExactSameOutcomeSaid : Prop := fnExactSameOutcomeRow.holds Try.pinned (OpenSpec.ofChange fnExactSameOutcomeSpec)

/-- ITS FALSE NEIGHBOUR: 'it returns false'. Refute it at one input. -/
def fnExactSameOutcomeWrong : ChangeSpec := { name := "fnExactSameOutcome", fn := fun _ => fun
  | [d1, d2] => { results := [.lit (.bool false)], args := [d1, d2] }
  | _ => none }
def FnExactSameOutcomeWrongFalsely : Prop := fnExactSameOutcomeRow.holds Try.pinned (OpenSpec.ofChange fnExactSameOutcomeWrong)

/-- 'laws.FnExactFlatOf': WHATEVER THE INPUT: true; the input reads as it did. -/
def fnExactFlatOfSpec : ChangeSpec := { name := "fnExactFlatOf", fn := fun _ => fun
  | [d] => { results := [.lit (.bool true)], args := [d] }
  | _ => none }
def fnExactFlatOfRow : OpenClaim := { program := "ytcckpcgmpmlioaa", sum := "c2f38d728a08405804e1e7598e130a21cb7d190d91c4940083ab1ff52959e380", func := "loop.example/g00694/laws.FnExactFlatOf", spec := "fnExactFlatOf", apart := false }
def FnExactFlatOfSaid : Prop := fnExactFlatOfRow.holds Try.pinned (OpenSpec.ofChange fnExactFlatOfSpec)

/-- ITS FALSE NEIGHBOUR: 'it returns false'. Refute it at one input. -/
def fnExactFlatOfWrong : ChangeSpec := { name := "fnExactFlatOf", fn := fun _ => fun
  | [d] => { results := [.lit (.bool false)], args := [d] }
  | _ => none }
def FnExactFlatOfWrongFalsely : Prop := fnExactFlatOfRow.holds Try.pinned (OpenSpec.ofChange fnExactFlatOfWrong)

/-- 'laws.FnExactMeetParts': WHATEVER THE INPUT: true; the input reads as it did. -/
def fnExactMeetPartsSpec : ChangeSpec := { name := "fnExactMeetParts", fn := fun _ => fun
  | [d1, d2] => { results := [.lit (.bool true)], args := [d1, d2] }
  | _ => none }
def fnExactMeetPartsRow : OpenClaim := { program := "ytcckpcgmpmlioaa", sum := "c2f38d728a08405804e1e7598e130a21cb7d190d91c4940083ab1ff52959e380", func := "loop.example/g00694/laws.FnExactMeetParts", spec := "fnExactMeetParts", unfollowed := true, recurses := true, apart := false }
def FnExactMeetPartsSaid : Prop := fnExactMeetPartsRow.holds Try.pinned (OpenSpec.ofChange fnExactMeetPartsSpec)

/-- ITS FALSE NEIGHBOUR: 'it returns false'. Refute it at one input. -/
def fnExactMeetPartsWrong : ChangeSpec := { name := "fnExactMeetParts", fn := fun _ => fun
  | [d1, d2] => { results := [.lit (.bool false)], args := [d1, d2] }
  | _ => none }
def FnExactMeetPartsWrongFalsely : Prop := fnExactMeetPartsRow.holds Try.pinned (OpenSpec.ofChange fnExactMeetPartsWrong)

/-- 'laws.FnExactMembersOf': WHATEVER THE INPUT: true; the input reads as it did. -/
def fnExactMembersOfSpec : ChangeSpec := { name := "fnExactMembersOf", fn := fun _ => fun
  | [d1, d2] => { results := [.lit (.bool true)], args := [d1, d2] }
  | _ => none }
def fnExactMembersOfRow : OpenClaim := { program := "ytcckpcgmpmlioaa", sum := "c2f38d728a08405804e1e7598e130a21cb7d190d91c4940083ab1ff52959e380", func := "loop.example/g00694/laws.FnExactMembersOf", spec := "fnExactMembersOf", unfollowed := true, recurses := true, apart := false }
def FnExactMembersOfSaid : Prop := fnExactMembersOfRow.holds Try.pinned (OpenSpec.ofChange fnExactMembersOfSpec)

/-- ITS FALSE NEIGHBOUR: 'it returns false'. Refute it at one input. -/
def fnExactMembersOfWrong : ChangeSpec := { name := "fnExactMembersOf", fn := fun _ => fun
  | [d1, d2] => { results := [.lit (.bool false)], args := [d1, d2] }
  | _ => none }
def FnExactMembersOfWrongFalsely : Prop := fnExactMembersOfRow.holds Try.pinned (OpenSpec.ofChange fnExactMembersOfWrong)

/-- 'laws.FnExactUnionRoots': WHATEVER THE INPUT: true; the input reads as it did. -/
def fnExactUnionRootsSpec : ChangeSpec := { name := "fnExactUnionRoots", fn := fun _ => fun
  | [d1, d2, d3] => { results := [.lit (.bool true)], args := [d1, d2, d3] }
  | _ => none }
def fnExactUnionRootsRow : OpenClaim := { program := "ytcckpcgmpmlioaa", sum := "c2f38d728a08405804e1e7598e130a21cb7d190d91c4940083ab1ff52959e380", func := "loop.example/g00694/laws.FnExactUnionRoots", spec := "fnExactUnionRoots", apart := false }
def FnExactUnionRootsSaid : Prop := fnExactUnionRootsRow.holds Try.pinned (OpenSpec.ofChange fnExactUnionRootsSpec)

/-- ITS FALSE NEIGHBOUR: 'it returns false'. Refute it at one input. -/
def fnExactUnionRootsWrong : ChangeSpec := { name := "fnExactUnionRoots", fn := fun _ => fun
  | [d1, d2, d3] => { results := [.lit (.bool false)], args := [d1, d2, d3] }
  | _ => none }
def FnExactUnionRootsWrongFalsely : Prop := fnExactUnionRootsRow.holds Try.pinned (OpenSpec.ofChange fnExactUnionRootsWrong)

/-- 'laws.FnExactJoinParts': WHATEVER THE INPUT: true; the input reads as it did. -/
def fnExactJoinPartsSpec : ChangeSpec := { name := "fnExactJoinParts", fn := fun _ => fun
  | [d1, d2, d3] => { results := [.lit (.bool true)], args := [d1, d2, d3] }
  | _ => none }
def fnExactJoinPartsRow : OpenClaim := { program := "ytcckpcgmpmlioaa", sum := "c2f38d728a08405804e1e7598e130a21cb7d190d91c4940083ab1ff52959e380", func := "loop.example/g00694/laws.FnExactJoinParts", spec := "fnExactJoinParts", unfollowed := true, recurses := true, apart := false }
def FnExactJoinPartsSaid : Prop := fnExactJoinPartsRow.holds Try.pinned (OpenSpec.ofChange fnExactJoinPartsSpec)

/-- ITS FALSE NEIGHBOUR: 'it returns false'. Refute it at one input. -/
def fnExactJoinPartsWrong : ChangeSpec := { name := "fnExactJoinParts", fn := fun _ => fun
  | [d1, d2, d3] => { results := [.lit (.bool false)], args := [d1, d2, d3] }
  | _ => none }
def FnExactJoinPartsWrongFalsely : Prop := fnExactJoinPartsRow.holds Try.pinned (OpenSpec.ofChange fnExactJoinPartsWrong)

/-- 'laws.FnExactDoOp': WHATEVER THE INPUT: true; the input reads as it did. -/
def fnExactDoOpSpec : ChangeSpec := { name := "fnExactDoOp", fn := fun _ => fun
  | [d1, d2] => { results := [.lit (.bool true)], args := [d1, d2] }
  | _ => none }
def fnExactDoOpRow : OpenClaim := { program := "ytcckpcgmpmlioaa", sum := "c2f38d728a08405804e1e7598e130a21cb7d190d91c4940083ab1ff52959e380", func := "loop.example/g00694/laws.FnExactDoOp", spec := "fnExactDoOp", apart := false }
def FnExactDoOpSaid : Prop := fnExactDoOpRow.holds Try.pinned (OpenSpec.ofChange fnExactDoOpSpec)

/-- ITS FALSE NEIGHBOUR: 'it returns false'. Refute it at one input. -/
def fnExactDoOpWrong : ChangeSpec := { name := "fnExactDoOp", fn := fun _ => fun
  | [d1, d2] => { results := [.lit (.bool false)], args := [d1, d2] }
  | _ => none }
def FnExactDoOpWrongFalsely : Prop := fnExactDoOpRow.holds Try.pinned (OpenSpec.ofChange fnExactDoOpWrong)

/- THE SECOND FORM. 'bulk': how many values and letters a reading holds, each counted each time it is reached (what is shared counts as often as it is met; a slice's spare places count too). A statement '..UptoSaid' is the law's where the arguments, and the package variables that the reading takes, are together of bulk at most 1048576: NARROWER than '..Said'. Prove '..Said' where nothing that the law and all that it calls make is longer than what came in: it says more and counts as full. Else prove '..UptoSaid'. A law counts once. -/
mutual
def uptoBulk {H : Type} : DataW H → Nat
  | .lit (.string bytes) => bytes.length + 1
  | .lit _ => 1
  | .nil => 1
  | .ptr d => uptoBulk d + 1
  | .slice elems spare => uptoBulkAll elems + uptoBulkAll spare + 1
  | .agg parts => uptoBulkAll parts + 1
  | .iface _ d => uptoBulk d + 1
  | .map entries => uptoBulkEntries entries + 1
  | .held _ => 1
def uptoBulkAll {H : Type} : List (DataW H) → Nat
  | [] => 0
  | d :: r => uptoBulk d + uptoBulkAll r
def uptoBulkEntries {H : Type} : List (Lit × DataW H) → Nat
  | [] => 0
  | x :: r => uptoBulkEntry x + uptoBulkEntries r
def uptoBulkEntry {H : Type} : Lit × DataW H → Nat
  | (.string bytes, d) => bytes.length + uptoBulk d + 1
  | (_, d) => uptoBulk d + 1
 end
def uptoSmall : (H : Type) → List (DataW H) → Bool := fun _ ds => decide (uptoBulkAll ds ≤ 1048576)
def OpenSpec.upto (s : _root_.Go.ChangeSpec) : _root_.Go.OpenSpec := { _root_.Go.OpenSpec.ofChange s with cond := some uptoSmall }

/-- 'laws.FnExactConstants', WHERE WHAT IT READS IS OF BULK AT MOST 1048576: true; the input reads as it did. -/
def fnExactConstantsUptoRow : OpenClaim := { program := "ytcckpcgmpmlioaa", sum := "c2f38d728a08405804e1e7598e130a21cb7d190d91c4940083ab1ff52959e380", func := "loop.example/g00694/laws.FnExactConstants", spec := "fnExactConstants", apart := false, narrowed := true }
def FnExactConstantsUptoSaid : Prop := fnExactConstantsUptoRow.holds Try.pinned (OpenSpec.upto fnExactConstantsSpec)

/-- 'laws.FnExactPowerOf', WHERE WHAT IT READS IS OF BULK AT MOST 1048576: true; the input reads as it did. -/
def fnExactPowerOfUptoRow : OpenClaim := { program := "ytcckpcgmpmlioaa", sum := "c2f38d728a08405804e1e7598e130a21cb7d190d91c4940083ab1ff52959e380", func := "loop.example/g00694/laws.FnExactPowerOf", spec := "fnExactPowerOf", apart := false, narrowed := true }
def FnExactPowerOfUptoSaid : Prop := fnExactPowerOfUptoRow.holds Try.pinned (OpenSpec.upto fnExactPowerOfSpec)

/-- 'laws.FnExactGoodParents', WHERE WHAT IT READS IS OF BULK AT MOST 1048576: true; the input reads as it did. -/
def fnExactGoodParentsUptoRow : OpenClaim := { program := "ytcckpcgmpmlioaa", sum := "c2f38d728a08405804e1e7598e130a21cb7d190d91c4940083ab1ff52959e380", func := "loop.example/g00694/laws.FnExactGoodParents", spec := "fnExactGoodParents", apart := false, narrowed := true }
def FnExactGoodParentsUptoSaid : Prop := fnExactGoodParentsUptoRow.holds Try.pinned (OpenSpec.upto fnExactGoodParentsSpec)

/-- 'laws.FnExactArityOf', WHERE WHAT IT READS IS OF BULK AT MOST 1048576: true; the input reads as it did. -/
def fnExactArityOfUptoRow : OpenClaim := { program := "ytcckpcgmpmlioaa", sum := "c2f38d728a08405804e1e7598e130a21cb7d190d91c4940083ab1ff52959e380", func := "loop.example/g00694/laws.FnExactArityOf", spec := "fnExactArityOf", apart := false, narrowed := true }
def FnExactArityOfUptoSaid : Prop := fnExactArityOfUptoRow.holds Try.pinned (OpenSpec.upto fnExactArityOfSpec)

/-- 'laws.FnExactGoodParts', WHERE WHAT IT READS IS OF BULK AT MOST 1048576: true; the input reads as it did. -/
def fnExactGoodPartsUptoRow : OpenClaim := { program := "ytcckpcgmpmlioaa", sum := "c2f38d728a08405804e1e7598e130a21cb7d190d91c4940083ab1ff52959e380", func := "loop.example/g00694/laws.FnExactGoodParts", spec := "fnExactGoodParts", unfollowed := true, recurses := true, apart := false, narrowed := true }
def FnExactGoodPartsUptoSaid : Prop := fnExactGoodPartsUptoRow.holds Try.pinned (OpenSpec.upto fnExactGoodPartsSpec)

/-- 'laws.FnExactCostOfOp', WHERE WHAT IT READS IS OF BULK AT MOST 1048576: true; the input reads as it did. -/
def fnExactCostOfOpUptoRow : OpenClaim := { program := "ytcckpcgmpmlioaa", sum := "c2f38d728a08405804e1e7598e130a21cb7d190d91c4940083ab1ff52959e380", func := "loop.example/g00694/laws.FnExactCostOfOp", spec := "fnExactCostOfOp", apart := false, narrowed := true }
def FnExactCostOfOpUptoSaid : Prop := fnExactCostOfOpUptoRow.holds Try.pinned (OpenSpec.upto fnExactCostOfOpSpec)

/-- 'laws.FnExactFindRoot', WHERE WHAT IT READS IS OF BULK AT MOST 1048576: true; the input reads as it did. -/
def fnExactFindRootUptoRow : OpenClaim := { program := "ytcckpcgmpmlioaa", sum := "c2f38d728a08405804e1e7598e130a21cb7d190d91c4940083ab1ff52959e380", func := "loop.example/g00694/laws.FnExactFindRoot", spec := "fnExactFindRoot", apart := false, narrowed := true }
def FnExactFindRootUptoSaid : Prop := fnExactFindRootUptoRow.holds Try.pinned (OpenSpec.upto fnExactFindRootSpec)

/-- 'laws.FnExactIsFinerParts', WHERE WHAT IT READS IS OF BULK AT MOST 1048576: true; the input reads as it did. -/
def fnExactIsFinerPartsUptoRow : OpenClaim := { program := "ytcckpcgmpmlioaa", sum := "c2f38d728a08405804e1e7598e130a21cb7d190d91c4940083ab1ff52959e380", func := "loop.example/g00694/laws.FnExactIsFinerParts", spec := "fnExactIsFinerParts", unfollowed := true, recurses := true, apart := false, narrowed := true }
def FnExactIsFinerPartsUptoSaid : Prop := fnExactIsFinerPartsUptoRow.holds Try.pinned (OpenSpec.upto fnExactIsFinerPartsSpec)

/-- 'laws.FnExactCountParts', WHERE WHAT IT READS IS OF BULK AT MOST 1048576: true; the input reads as it did. -/
def fnExactCountPartsUptoRow : OpenClaim := { program := "ytcckpcgmpmlioaa", sum := "c2f38d728a08405804e1e7598e130a21cb7d190d91c4940083ab1ff52959e380", func := "loop.example/g00694/laws.FnExactCountParts", spec := "fnExactCountParts", unfollowed := true, recurses := true, apart := false, narrowed := true }
def FnExactCountPartsUptoSaid : Prop := fnExactCountPartsUptoRow.holds Try.pinned (OpenSpec.upto fnExactCountPartsSpec)

/-- 'laws.FnExactSameOutcome', WHERE WHAT IT READS IS OF BULK AT MOST 1048576: true; the input reads as it did. -/
def fnExactSameOutcomeUptoRow : OpenClaim := { program := "ytcckpcgmpmlioaa", sum := "c2f38d728a08405804e1e7598e130a21cb7d190d91c4940083ab1ff52959e380", func := "loop.example/g00694/laws.FnExactSameOutcome", spec := "fnExactSameOutcome", apart := false, narrowed := true }
def FnExactSameOutcomeUptoSaid : Prop := fnExactSameOutcomeUptoRow.holds Try.pinned (OpenSpec.upto fnExactSameOutcomeSpec)

/-- 'laws.FnExactFlatOf', WHERE WHAT IT READS IS OF BULK AT MOST 1048576: true; the input reads as it did. -/
def fnExactFlatOfUptoRow : OpenClaim := { program := "ytcckpcgmpmlioaa", sum := "c2f38d728a08405804e1e7598e130a21cb7d190d91c4940083ab1ff52959e380", func := "loop.example/g00694/laws.FnExactFlatOf", spec := "fnExactFlatOf", apart := false, narrowed := true }
def FnExactFlatOfUptoSaid : Prop := fnExactFlatOfUptoRow.holds Try.pinned (OpenSpec.upto fnExactFlatOfSpec)

/-- 'laws.FnExactMeetParts', WHERE WHAT IT READS IS OF BULK AT MOST 1048576: true; the input reads as it did. -/
def fnExactMeetPartsUptoRow : OpenClaim := { program := "ytcckpcgmpmlioaa", sum := "c2f38d728a08405804e1e7598e130a21cb7d190d91c4940083ab1ff52959e380", func := "loop.example/g00694/laws.FnExactMeetParts", spec := "fnExactMeetParts", unfollowed := true, recurses := true, apart := false, narrowed := true }
def FnExactMeetPartsUptoSaid : Prop := fnExactMeetPartsUptoRow.holds Try.pinned (OpenSpec.upto fnExactMeetPartsSpec)

/-- 'laws.FnExactMembersOf', WHERE WHAT IT READS IS OF BULK AT MOST 1048576: true; the input reads as it did. -/
def fnExactMembersOfUptoRow : OpenClaim := { program := "ytcckpcgmpmlioaa", sum := "c2f38d728a08405804e1e7598e130a21cb7d190d91c4940083ab1ff52959e380", func := "loop.example/g00694/laws.FnExactMembersOf", spec := "fnExactMembersOf", unfollowed := true, recurses := true, apart := false, narrowed := true }
def FnExactMembersOfUptoSaid : Prop := fnExactMembersOfUptoRow.holds Try.pinned (OpenSpec.upto fnExactMembersOfSpec)

/-- 'laws.FnExactUnionRoots', WHERE WHAT IT READS IS OF BULK AT MOST 1048576: true; the input reads as it did. -/
def fnExactUnionRootsUptoRow : OpenClaim := { program := "ytcckpcgmpmlioaa", sum := "c2f38d728a08405804e1e7598e130a21cb7d190d91c4940083ab1ff52959e380", func := "loop.example/g00694/laws.FnExactUnionRoots", spec := "fnExactUnionRoots", apart := false, narrowed := true }
def FnExactUnionRootsUptoSaid : Prop := fnExactUnionRootsUptoRow.holds Try.pinned (OpenSpec.upto fnExactUnionRootsSpec)

/-- 'laws.FnExactJoinParts', WHERE WHAT IT READS IS OF BULK AT MOST 1048576: true; the input reads as it did. -/
def fnExactJoinPartsUptoRow : OpenClaim := { program := "ytcckpcgmpmlioaa", sum := "c2f38d728a08405804e1e7598e130a21cb7d190d91c4940083ab1ff52959e380", func := "loop.example/g00694/laws.FnExactJoinParts", spec := "fnExactJoinParts", unfollowed := true, recurses := true, apart := false, narrowed := true }
def FnExactJoinPartsUptoSaid : Prop := fnExactJoinPartsUptoRow.holds Try.pinned (OpenSpec.upto fnExactJoinPartsSpec)

/-- 'laws.FnExactDoOp', WHERE WHAT IT READS IS OF BULK AT MOST 1048576: true; the input reads as it did. -/
def fnExactDoOpUptoRow : OpenClaim := { program := "ytcckpcgmpmlioaa", sum := "c2f38d728a08405804e1e7598e130a21cb7d190d91c4940083ab1ff52959e380", func := "loop.example/g00694/laws.FnExactDoOp", spec := "fnExactDoOp", apart := false, narrowed := true }
def FnExactDoOpUptoSaid : Prop := fnExactDoOpUptoRow.holds Try.pinned (OpenSpec.upto fnExactDoOpSpec)

end Rows
end Go.Proofs.Ytcckpcgmpmlioaa
