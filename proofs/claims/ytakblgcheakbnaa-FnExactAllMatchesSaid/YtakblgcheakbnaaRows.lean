/-
  No cell of these rows narrows 'for every input' (looked for: loops, veiled, ifaces, maps, wideKeys, modest, calm, conditions, laid).
  DERIVED. THE GIVEN ROWS OF THIS SEAT. 14 by the template 'for every input the law returns true; each argument reads behind the call as it read before'; 0 by the template 'total and deterministic' (their statements: YtakblgcheakbnaaTotals.lean).
  GIVEN WITH THE SEED: the statements are not yours to turn. If you find one false, say at which input.
  Laid BY PROGRAM, IN A SANDBOX (cutbox-rows.mjs): the forced cells as the released guide's own fill.sh prints them over the translation c2fa9fecca082e50… (all of the seat's roots in one cut). By AI agents, Wed Nov 11 2026. No macro, syntax, notation, axiom, sorry.
-/
import Derived.Test.YtakblgcheakbnaaChecked
import GoSem.Claim
import GoSem.ClaimJoined
import GoSem.ClaimMapViews
import Derived.JoinedTies
import Derived.KernelRfl
namespace Go.Proofs.Ytakblgcheakbnaa
/- THE CELL 'sum', in the pinned program and in every row, IS THE sha256 OF THE DUMP (.gsa) THAT YtakblgcheakbnaaProg.lean LOADS. Nothing in Lean hashes anything: it is a label: what it is worth is what the hold of that sum in a sandbox is worth. -/
noncomputable def Try.pinned : Pinned := { name := "ytakblgcheakbnaa", sum := "c2fa9fecca082e501bbf00820d67b889d5ed761a5c7b9b555de2b4c850e2aaf1", checked := Try.checked }
namespace Rows
def none {H : Type} : Left H := { results := [], args := [] }

/-- 'laws.FnExactMatchAt': WHATEVER THE INPUT: true; the input reads as it did. -/
def fnExactMatchAtSpec : ChangeSpec := { name := "fnExactMatchAt", fn := fun _ => fun
  | [d1, d2, d3] => { results := [.lit (.bool true)], args := [d1, d2, d3] }
  | _ => none }
def fnExactMatchAtRow : OpenClaim := { program := "ytakblgcheakbnaa", sum := "c2fa9fecca082e501bbf00820d67b889d5ed761a5c7b9b555de2b4c850e2aaf1", func := "loop.example/g00694/laws.FnExactMatchAt", spec := "fnExactMatchAt", unfollowed := true, recurses := true, plainKeys := false, apart := false }
def FnExactMatchAtSaid : Prop := fnExactMatchAtRow.holds Try.pinned (OpenSpec.ofChange fnExactMatchAtSpec)

/-- ITS FALSE NEIGHBOUR: 'it returns false'. Refute it at one input. -/
def fnExactMatchAtWrong : ChangeSpec := { name := "fnExactMatchAt", fn := fun _ => fun
  | [d1, d2, d3] => { results := [.lit (.bool false)], args := [d1, d2, d3] }
  | _ => none }
def FnExactMatchAtWrongFalsely : Prop := fnExactMatchAtRow.holds Try.pinned (OpenSpec.ofChange fnExactMatchAtWrong)

/-- 'laws.FnExactAllMatches': WHATEVER THE INPUT: true; the input reads as it did. -/
def fnExactAllMatchesSpec : ChangeSpec := { name := "fnExactAllMatches", fn := fun _ => fun
  | [d1, d2] => { results := [.lit (.bool true)], args := [d1, d2] }
  | _ => none }
def fnExactAllMatchesRow : OpenClaim := { program := "ytakblgcheakbnaa", sum := "c2fa9fecca082e501bbf00820d67b889d5ed761a5c7b9b555de2b4c850e2aaf1", func := "loop.example/g00694/laws.FnExactAllMatches", spec := "fnExactAllMatches", unfollowed := true, recurses := true, plainKeys := false, apart := false }
def FnExactAllMatchesSaid : Prop := fnExactAllMatchesRow.holds Try.pinned (OpenSpec.ofChange fnExactAllMatchesSpec)

/-- ITS FALSE NEIGHBOUR: 'it returns false'. Refute it at one input. -/
def fnExactAllMatchesWrong : ChangeSpec := { name := "fnExactAllMatches", fn := fun _ => fun
  | [d1, d2] => { results := [.lit (.bool false)], args := [d1, d2] }
  | _ => none }
def FnExactAllMatchesWrongFalsely : Prop := fnExactAllMatchesRow.holds Try.pinned (OpenSpec.ofChange fnExactAllMatchesWrong)

/-- 'laws.FnExactGoodGraph': WHATEVER THE INPUT: true; the input reads as it did. -/
def fnExactGoodGraphSpec : ChangeSpec := { name := "fnExactGoodGraph", fn := fun _ => fun
  | [d] => { results := [.lit (.bool true)], args := [d] }
  | _ => none }
def fnExactGoodGraphRow : OpenClaim := { program := "ytakblgcheakbnaa", sum := "c2fa9fecca082e501bbf00820d67b889d5ed761a5c7b9b555de2b4c850e2aaf1", func := "loop.example/g00694/laws.FnExactGoodGraph", spec := "fnExactGoodGraph", unfollowed := true, recurses := true, plainKeys := false, apart := false }
def FnExactGoodGraphSaid : Prop := fnExactGoodGraphRow.holds Try.pinned (OpenSpec.ofChange fnExactGoodGraphSpec)

/-- ITS FALSE NEIGHBOUR: 'it returns false'. Refute it at one input. -/
def fnExactGoodGraphWrong : ChangeSpec := { name := "fnExactGoodGraph", fn := fun _ => fun
  | [d] => { results := [.lit (.bool false)], args := [d] }
  | _ => none }
def FnExactGoodGraphWrongFalsely : Prop := fnExactGoodGraphRow.holds Try.pinned (OpenSpec.ofChange fnExactGoodGraphWrong)

/-- 'laws.FnExactDropLink': WHATEVER THE INPUT: true; the input reads as it did. -/
def fnExactDropLinkSpec : ChangeSpec := { name := "fnExactDropLink", fn := fun _ => fun
  | [d1, d2] => { results := [.lit (.bool true)], args := [d1, d2] }
  | _ => none }
def fnExactDropLinkRow : OpenClaim := { program := "ytakblgcheakbnaa", sum := "c2fa9fecca082e501bbf00820d67b889d5ed761a5c7b9b555de2b4c850e2aaf1", func := "loop.example/g00694/laws.FnExactDropLink", spec := "fnExactDropLink", plainKeys := false, apart := false }
def FnExactDropLinkSaid : Prop := fnExactDropLinkRow.holds Try.pinned (OpenSpec.ofChange fnExactDropLinkSpec)

/-- ITS FALSE NEIGHBOUR: 'it returns false'. Refute it at one input. -/
def fnExactDropLinkWrong : ChangeSpec := { name := "fnExactDropLink", fn := fun _ => fun
  | [d1, d2] => { results := [.lit (.bool false)], args := [d1, d2] }
  | _ => none }
def FnExactDropLinkWrongFalsely : Prop := fnExactDropLinkRow.holds Try.pinned (OpenSpec.ofChange fnExactDropLinkWrong)

/-- 'laws.FnExactClassesIn': WHATEVER THE INPUT: true; the input reads as it did. -/
def fnExactClassesInSpec : ChangeSpec := { name := "fnExactClassesIn", fn := fun _ => fun
  | [d] => { results := [.lit (.bool true)], args := [d] }
  | _ => none }
def fnExactClassesInRow : OpenClaim := { program := "ytakblgcheakbnaa", sum := "c2fa9fecca082e501bbf00820d67b889d5ed761a5c7b9b555de2b4c850e2aaf1", func := "loop.example/g00694/laws.FnExactClassesIn", spec := "fnExactClassesIn", unfollowed := true, recurses := true, plainKeys := false, apart := false }
def FnExactClassesInSaid : Prop := fnExactClassesInRow.holds Try.pinned (OpenSpec.ofChange fnExactClassesInSpec)

/-- ITS FALSE NEIGHBOUR: 'it returns false'. Refute it at one input. -/
def fnExactClassesInWrong : ChangeSpec := { name := "fnExactClassesIn", fn := fun _ => fun
  | [d] => { results := [.lit (.bool false)], args := [d] }
  | _ => none }
def FnExactClassesInWrongFalsely : Prop := fnExactClassesInRow.holds Try.pinned (OpenSpec.ofChange fnExactClassesInWrong)

/-- 'laws.FnExactNodesIn': WHATEVER THE INPUT: true; the input reads as it did. -/
def fnExactNodesInSpec : ChangeSpec := { name := "fnExactNodesIn", fn := fun _ => fun
  | [d1, d2] => { results := [.lit (.bool true)], args := [d1, d2] }
  | _ => none }
def fnExactNodesInRow : OpenClaim := { program := "ytakblgcheakbnaa", sum := "c2fa9fecca082e501bbf00820d67b889d5ed761a5c7b9b555de2b4c850e2aaf1", func := "loop.example/g00694/laws.FnExactNodesIn", spec := "fnExactNodesIn", unfollowed := true, recurses := true, plainKeys := false, apart := false }
def FnExactNodesInSaid : Prop := fnExactNodesInRow.holds Try.pinned (OpenSpec.ofChange fnExactNodesInSpec)

/-- ITS FALSE NEIGHBOUR: 'it returns false'. Refute it at one input. -/
def fnExactNodesInWrong : ChangeSpec := { name := "fnExactNodesIn", fn := fun _ => fun
  | [d1, d2] => { results := [.lit (.bool false)], args := [d1, d2] }
  | _ => none }
def FnExactNodesInWrongFalsely : Prop := fnExactNodesInRow.holds Try.pinned (OpenSpec.ofChange fnExactNodesInWrong)

/-- 'laws.FnExactClosed': WHATEVER THE INPUT: true; the input reads as it did. -/
def fnExactClosedSpec : ChangeSpec := { name := "fnExactClosed", fn := fun _ => fun
  | [d1, d2] => { results := [.lit (.bool true)], args := [d1, d2] }
  | _ => none }
def fnExactClosedRow : OpenClaim := { program := "ytakblgcheakbnaa", sum := "c2fa9fecca082e501bbf00820d67b889d5ed761a5c7b9b555de2b4c850e2aaf1", func := "loop.example/g00694/laws.FnExactClosed", spec := "fnExactClosed", unfollowed := true, recurses := true, plainKeys := false, apart := false }
def FnExactClosedSaid : Prop := fnExactClosedRow.holds Try.pinned (OpenSpec.ofChange fnExactClosedSpec)

/-- ITS FALSE NEIGHBOUR: 'it returns false'. Refute it at one input. -/
def fnExactClosedWrong : ChangeSpec := { name := "fnExactClosed", fn := fun _ => fun
  | [d1, d2] => { results := [.lit (.bool false)], args := [d1, d2] }
  | _ => none }
def FnExactClosedWrongFalsely : Prop := fnExactClosedRow.holds Try.pinned (OpenSpec.ofChange fnExactClosedWrong)

/-- 'laws.FnExactChosenIn': WHATEVER THE INPUT: true; the input reads as it did. -/
def fnExactChosenInSpec : ChangeSpec := { name := "fnExactChosenIn", fn := fun _ => fun
  | [d1, d2] => { results := [.lit (.bool true)], args := [d1, d2] }
  | _ => none }
def fnExactChosenInRow : OpenClaim := { program := "ytakblgcheakbnaa", sum := "c2fa9fecca082e501bbf00820d67b889d5ed761a5c7b9b555de2b4c850e2aaf1", func := "loop.example/g00694/laws.FnExactChosenIn", spec := "fnExactChosenIn", unfollowed := true, recurses := true, plainKeys := false, apart := false }
def FnExactChosenInSaid : Prop := fnExactChosenInRow.holds Try.pinned (OpenSpec.ofChange fnExactChosenInSpec)

/-- ITS FALSE NEIGHBOUR: 'it returns false'. Refute it at one input. -/
def fnExactChosenInWrong : ChangeSpec := { name := "fnExactChosenIn", fn := fun _ => fun
  | [d1, d2] => { results := [.lit (.bool false)], args := [d1, d2] }
  | _ => none }
def FnExactChosenInWrongFalsely : Prop := fnExactChosenInRow.holds Try.pinned (OpenSpec.ofChange fnExactChosenInWrong)

/-- 'laws.FnExactBestCosts': WHATEVER THE INPUT: true; the input reads as it did. -/
def fnExactBestCostsSpec : ChangeSpec := { name := "fnExactBestCosts", fn := fun _ => fun
  | [d] => { results := [.lit (.bool true)], args := [d] }
  | _ => none }
def fnExactBestCostsRow : OpenClaim := { program := "ytakblgcheakbnaa", sum := "c2fa9fecca082e501bbf00820d67b889d5ed761a5c7b9b555de2b4c850e2aaf1", func := "loop.example/g00694/laws.FnExactBestCosts", spec := "fnExactBestCosts", unfollowed := true, recurses := true, plainKeys := false, apart := false }
def FnExactBestCostsSaid : Prop := fnExactBestCostsRow.holds Try.pinned (OpenSpec.ofChange fnExactBestCostsSpec)

/-- ITS FALSE NEIGHBOUR: 'it returns false'. Refute it at one input. -/
def fnExactBestCostsWrong : ChangeSpec := { name := "fnExactBestCosts", fn := fun _ => fun
  | [d] => { results := [.lit (.bool false)], args := [d] }
  | _ => none }
def FnExactBestCostsWrongFalsely : Prop := fnExactBestCostsRow.holds Try.pinned (OpenSpec.ofChange fnExactBestCostsWrong)

/-- 'laws.FnExactIsMatch': WHATEVER THE INPUT: true; the input reads as it did. -/
def fnExactIsMatchSpec : ChangeSpec := { name := "fnExactIsMatch", fn := fun _ => fun
  | [d1, d2, d3, d4] => { results := [.lit (.bool true)], args := [d1, d2, d3, d4] }
  | _ => none }
def fnExactIsMatchRow : OpenClaim := { program := "ytakblgcheakbnaa", sum := "c2fa9fecca082e501bbf00820d67b889d5ed761a5c7b9b555de2b4c850e2aaf1", func := "loop.example/g00694/laws.FnExactIsMatch", spec := "fnExactIsMatch", unfollowed := true, recurses := true, plainKeys := false, apart := false }
def FnExactIsMatchSaid : Prop := fnExactIsMatchRow.holds Try.pinned (OpenSpec.ofChange fnExactIsMatchSpec)

/-- ITS FALSE NEIGHBOUR: 'it returns false'. Refute it at one input. -/
def fnExactIsMatchWrong : ChangeSpec := { name := "fnExactIsMatch", fn := fun _ => fun
  | [d1, d2, d3, d4] => { results := [.lit (.bool false)], args := [d1, d2, d3, d4] }
  | _ => none }
def FnExactIsMatchWrongFalsely : Prop := fnExactIsMatchRow.holds Try.pinned (OpenSpec.ofChange fnExactIsMatchWrong)

/-- 'laws.FnExactFindTerm': WHATEVER THE INPUT: true; the input reads as it did. -/
def fnExactFindTermSpec : ChangeSpec := { name := "fnExactFindTerm", fn := fun _ => fun
  | [d1, d2] => { results := [.lit (.bool true)], args := [d1, d2] }
  | _ => none }
def fnExactFindTermRow : OpenClaim := { program := "ytakblgcheakbnaa", sum := "c2fa9fecca082e501bbf00820d67b889d5ed761a5c7b9b555de2b4c850e2aaf1", func := "loop.example/g00694/laws.FnExactFindTerm", spec := "fnExactFindTerm", unfollowed := true, recurses := true, plainKeys := false, apart := false }
def FnExactFindTermSaid : Prop := fnExactFindTermRow.holds Try.pinned (OpenSpec.ofChange fnExactFindTermSpec)

/-- ITS FALSE NEIGHBOUR: 'it returns false'. Refute it at one input. -/
def fnExactFindTermWrong : ChangeSpec := { name := "fnExactFindTerm", fn := fun _ => fun
  | [d1, d2] => { results := [.lit (.bool false)], args := [d1, d2] }
  | _ => none }
def FnExactFindTermWrongFalsely : Prop := fnExactFindTermRow.holds Try.pinned (OpenSpec.ofChange fnExactFindTermWrong)

/-- 'laws.FnExactHoldsTerm': WHATEVER THE INPUT: true; the input reads as it did. -/
def fnExactHoldsTermSpec : ChangeSpec := { name := "fnExactHoldsTerm", fn := fun _ => fun
  | [d1, d2, d3] => { results := [.lit (.bool true)], args := [d1, d2, d3] }
  | _ => none }
def fnExactHoldsTermRow : OpenClaim := { program := "ytakblgcheakbnaa", sum := "c2fa9fecca082e501bbf00820d67b889d5ed761a5c7b9b555de2b4c850e2aaf1", func := "loop.example/g00694/laws.FnExactHoldsTerm", spec := "fnExactHoldsTerm", unfollowed := true, recurses := true, plainKeys := false, apart := false }
def FnExactHoldsTermSaid : Prop := fnExactHoldsTermRow.holds Try.pinned (OpenSpec.ofChange fnExactHoldsTermSpec)

/-- ITS FALSE NEIGHBOUR: 'it returns false'. Refute it at one input. -/
def fnExactHoldsTermWrong : ChangeSpec := { name := "fnExactHoldsTerm", fn := fun _ => fun
  | [d1, d2, d3] => { results := [.lit (.bool false)], args := [d1, d2, d3] }
  | _ => none }
def FnExactHoldsTermWrongFalsely : Prop := fnExactHoldsTermRow.holds Try.pinned (OpenSpec.ofChange fnExactHoldsTermWrong)

/-- 'laws.FnExactMerge': WHATEVER THE INPUT: true; the input reads as it did. -/
def fnExactMergeSpec : ChangeSpec := { name := "fnExactMerge", fn := fun _ => fun
  | [d1, d2, d3] => { results := [.lit (.bool true)], args := [d1, d2, d3] }
  | _ => none }
def fnExactMergeRow : OpenClaim := { program := "ytakblgcheakbnaa", sum := "c2fa9fecca082e501bbf00820d67b889d5ed761a5c7b9b555de2b4c850e2aaf1", func := "loop.example/g00694/laws.FnExactMerge", spec := "fnExactMerge", unfollowed := true, recurses := true, plainKeys := false, apart := false }
def FnExactMergeSaid : Prop := fnExactMergeRow.holds Try.pinned (OpenSpec.ofChange fnExactMergeSpec)

/-- ITS FALSE NEIGHBOUR: 'it returns false'. Refute it at one input. -/
def fnExactMergeWrong : ChangeSpec := { name := "fnExactMerge", fn := fun _ => fun
  | [d1, d2, d3] => { results := [.lit (.bool false)], args := [d1, d2, d3] }
  | _ => none }
def FnExactMergeWrongFalsely : Prop := fnExactMergeRow.holds Try.pinned (OpenSpec.ofChange fnExactMergeWrong)

/-- 'laws.FnExactExtract': WHATEVER THE INPUT: true; the input reads as it did. -/
def fnExactExtractSpec : ChangeSpec := { name := "fnExactExtract", fn := fun _ => fun
  | [d1, d2] => { results := [.lit (.bool true)], args := [d1, d2] }
  | _ => none }
def fnExactExtractRow : OpenClaim := { program := "ytakblgcheakbnaa", sum := "c2fa9fecca082e501bbf00820d67b889d5ed761a5c7b9b555de2b4c850e2aaf1", func := "loop.example/g00694/laws.FnExactExtract", spec := "fnExactExtract", unfollowed := true, recurses := true, plainKeys := false, apart := false }
def FnExactExtractSaid : Prop := fnExactExtractRow.holds Try.pinned (OpenSpec.ofChange fnExactExtractSpec)

/-- ITS FALSE NEIGHBOUR: 'it returns false'. Refute it at one input. -/
def fnExactExtractWrong : ChangeSpec := { name := "fnExactExtract", fn := fun _ => fun
  | [d1, d2] => { results := [.lit (.bool false)], args := [d1, d2] }
  | _ => none }
def FnExactExtractWrongFalsely : Prop := fnExactExtractRow.holds Try.pinned (OpenSpec.ofChange fnExactExtractWrong)

/- THE SECOND FORM. 'bulk': how many values and letters a reading holds, each counted each time it is reached (what is shared counts as often as it is met; a slice's spare places count too). A statement '..UptoSaid' is the law's where the arguments, and the package variables that the reading takes, are together of bulk at most 1048576: NARROWER than '..Said'. Prove '..Said' where nothing that the law and all that it calls make is longer than what came in: it says more and counts as full. Else prove '..UptoSaid'. A law counts once. -/
mutual
def uptoBulk {H : Type} : DataW H → Nat
  | .lit (.string bytes) => bytes.length + 1
  | .lit _ => 1
  | .nil => 1
  | .ptr d => uptoBulk d + 1
  | .slice elems spare => uptoBulkAll elems + uptoBulkAll spare + 1
  | .agg parts => uptoBulkAll parts + 1
  | .iface _ d => uptoBulk d + 1
  | .map entries => uptoBulkEntries entries + 1
  | .held _ => 1
def uptoBulkAll {H : Type} : List (DataW H) → Nat
  | [] => 0
  | d :: r => uptoBulk d + uptoBulkAll r
def uptoBulkEntries {H : Type} : List (Lit × DataW H) → Nat
  | [] => 0
  | x :: r => uptoBulkEntry x + uptoBulkEntries r
def uptoBulkEntry {H : Type} : Lit × DataW H → Nat
  | (.string bytes, d) => bytes.length + uptoBulk d + 1
  | (_, d) => uptoBulk d + 1
 end
def uptoSmall : (H : Type) → List (DataW H) → Bool := fun _ ds => decide (uptoBulkAll ds ≤ 1048576)
def OpenSpec.upto (s : _root_.Go.ChangeSpec) : _root_.Go.OpenSpec := { _root_.Go.OpenSpec.ofChange s with cond := some uptoSmall }

/-- 'laws.FnExactMatchAt', WHERE WHAT IT READS IS OF BULK AT MOST 1048576: true; the input reads as it did. -/
def fnExactMatchAtUptoRow : OpenClaim := { program := "ytakblgcheakbnaa", sum := "c2fa9fecca082e501bbf00820d67b889d5ed761a5c7b9b555de2b4c850e2aaf1", func := "loop.example/g00694/laws.FnExactMatchAt", spec := "fnExactMatchAt", unfollowed := true, recurses := true, plainKeys := false, apart := false, narrowed := true }
def FnExactMatchAtUptoSaid : Prop := fnExactMatchAtUptoRow.holds Try.pinned (OpenSpec.upto fnExactMatchAtSpec)

/-- 'laws.FnExactAllMatches', WHERE WHAT IT READS IS OF BULK AT MOST 1048576: true; the input reads as it did. -/
def fnExactAllMatchesUptoRow : OpenClaim := { program := "ytakblgcheakbnaa", sum := "c2fa9fecca082e501bbf00820d67b889d5ed761a5c7b9b555de2b4c850e2aaf1", func := "loop.example/g00694/laws.FnExactAllMatches", spec := "fnExactAllMatches", unfollowed := true, recurses := true, plainKeys := false, apart := false, narrowed := true }
def FnExactAllMatchesUptoSaid : Prop := fnExactAllMatchesUptoRow.holds Try.pinned (OpenSpec.upto fnExactAllMatchesSpec)

/-- 'laws.FnExactGoodGraph', WHERE WHAT IT READS IS OF BULK AT MOST 1048576: true; the input reads as it did. -/
def fnExactGoodGraphUptoRow : OpenClaim := { program := "ytakblgcheakbnaa", sum := "c2fa9fecca082e501bbf00820d67b889d5ed761a5c7b9b555de2b4c850e2aaf1", func := "loop.example/g00694/laws.FnExactGoodGraph", spec := "fnExactGoodGraph", unfollowed := true, recurses := true, plainKeys := false, apart := false, narrowed := true }
def FnExactGoodGraphUptoSaid : Prop := fnExactGoodGraphUptoRow.holds Try.pinned (OpenSpec.upto fnExactGoodGraphSpec)

/-- 'laws.FnExactDropLink', WHERE WHAT IT READS IS OF BULK AT MOST 1048576: true; the input reads as it did. -/
def fnExactDropLinkUptoRow : OpenClaim := { program := "ytakblgcheakbnaa", sum := "c2fa9fecca082e501bbf00820d67b889d5ed761a5c7b9b555de2b4c850e2aaf1", func := "loop.example/g00694/laws.FnExactDropLink", spec := "fnExactDropLink", plainKeys := false, apart := false, narrowed := true }
def FnExactDropLinkUptoSaid : Prop := fnExactDropLinkUptoRow.holds Try.pinned (OpenSpec.upto fnExactDropLinkSpec)

/-- 'laws.FnExactClassesIn', WHERE WHAT IT READS IS OF BULK AT MOST 1048576: true; the input reads as it did. -/
def fnExactClassesInUptoRow : OpenClaim := { program := "ytakblgcheakbnaa", sum := "c2fa9fecca082e501bbf00820d67b889d5ed761a5c7b9b555de2b4c850e2aaf1", func := "loop.example/g00694/laws.FnExactClassesIn", spec := "fnExactClassesIn", unfollowed := true, recurses := true, plainKeys := false, apart := false, narrowed := true }
def FnExactClassesInUptoSaid : Prop := fnExactClassesInUptoRow.holds Try.pinned (OpenSpec.upto fnExactClassesInSpec)

/-- 'laws.FnExactNodesIn', WHERE WHAT IT READS IS OF BULK AT MOST 1048576: true; the input reads as it did. -/
def fnExactNodesInUptoRow : OpenClaim := { program := "ytakblgcheakbnaa", sum := "c2fa9fecca082e501bbf00820d67b889d5ed761a5c7b9b555de2b4c850e2aaf1", func := "loop.example/g00694/laws.FnExactNodesIn", spec := "fnExactNodesIn", unfollowed := true, recurses := true, plainKeys := false, apart := false, narrowed := true }
def FnExactNodesInUptoSaid : Prop := fnExactNodesInUptoRow.holds Try.pinned (OpenSpec.upto fnExactNodesInSpec)

/-- 'laws.FnExactClosed', WHERE WHAT IT READS IS OF BULK AT MOST 1048576: true; the input reads as it did. -/
def fnExactClosedUptoRow : OpenClaim := { program := "ytakblgcheakbnaa", sum := "c2fa9fecca082e501bbf00820d67b889d5ed761a5c7b9b555de2b4c850e2aaf1", func := "loop.example/g00694/laws.FnExactClosed", spec := "fnExactClosed", unfollowed := true, recurses := true, plainKeys := false, apart := false, narrowed := true }
def FnExactClosedUptoSaid : Prop := fnExactClosedUptoRow.holds Try.pinned (OpenSpec.upto fnExactClosedSpec)

/-- 'laws.FnExactChosenIn', WHERE WHAT IT READS IS OF BULK AT MOST 1048576: true; the input reads as it did. -/
def fnExactChosenInUptoRow : OpenClaim := { program := "ytakblgcheakbnaa", sum := "c2fa9fecca082e501bbf00820d67b889d5ed761a5c7b9b555de2b4c850e2aaf1", func := "loop.example/g00694/laws.FnExactChosenIn", spec := "fnExactChosenIn", unfollowed := true, recurses := true, plainKeys := false, apart := false, narrowed := true }
def FnExactChosenInUptoSaid : Prop := fnExactChosenInUptoRow.holds Try.pinned (OpenSpec.upto fnExactChosenInSpec)

/-- 'laws.FnExactBestCosts', WHERE WHAT IT READS IS OF BULK AT MOST 1048576: true; the input reads as it did. -/
def fnExactBestCostsUptoRow : OpenClaim := { program := "ytakblgcheakbnaa", sum := "c2fa9fecca082e501bbf00820d67b889d5ed761a5c7b9b555de2b4c850e2aaf1", func := "loop.example/g00694/laws.FnExactBestCosts", spec := "fnExactBestCosts", unfollowed := true, recurses := true, plainKeys := false, apart := false, narrowed := true }
def FnExactBestCostsUptoSaid : Prop := fnExactBestCostsUptoRow.holds Try.pinned (OpenSpec.upto fnExactBestCostsSpec)

/-- 'laws.FnExactIsMatch', WHERE WHAT IT READS IS OF BULK AT MOST 1048576: true; the input reads as it did. -/
def fnExactIsMatchUptoRow : OpenClaim := { program := "ytakblgcheakbnaa", sum := "c2fa9fecca082e501bbf00820d67b889d5ed761a5c7b9b555de2b4c850e2aaf1", func := "loop.example/g00694/laws.FnExactIsMatch", spec := "fnExactIsMatch", unfollowed := true, recurses := true, plainKeys := false, apart := false, narrowed := true }
def FnExactIsMatchUptoSaid : Prop := fnExactIsMatchUptoRow.holds Try.pinned (OpenSpec.upto fnExactIsMatchSpec)

/-- 'laws.FnExactFindTerm', WHERE WHAT IT READS IS OF BULK AT MOST 1048576: true; the input reads as it did. -/
def fnExactFindTermUptoRow : OpenClaim := { program := "ytakblgcheakbnaa", sum := "c2fa9fecca082e501bbf00820d67b889d5ed761a5c7b9b555de2b4c850e2aaf1", func := "loop.example/g00694/laws.FnExactFindTerm", spec := "fnExactFindTerm", unfollowed := true, recurses := true, plainKeys := false, apart := false, narrowed := true }
def FnExactFindTermUptoSaid : Prop := fnExactFindTermUptoRow.holds Try.pinned (OpenSpec.upto fnExactFindTermSpec)

/-- 'laws.FnExactHoldsTerm', WHERE WHAT IT READS IS OF BULK AT MOST 1048576: true; the input reads as it did. -/
def fnExactHoldsTermUptoRow : OpenClaim := { program := "ytakblgcheakbnaa", sum := "c2fa9fecca082e501bbf00820d67b889d5ed761a5c7b9b555de2b4c850e2aaf1", func := "loop.example/g00694/laws.FnExactHoldsTerm", spec := "fnExactHoldsTerm", unfollowed := true, recurses := true, plainKeys := false, apart := false, narrowed := true }
def FnExactHoldsTermUptoSaid : Prop := fnExactHoldsTermUptoRow.holds Try.pinned (OpenSpec.upto fnExactHoldsTermSpec)

/-- 'laws.FnExactMerge', WHERE WHAT IT READS IS OF BULK AT MOST 1048576: true; the input reads as it did. -/
def fnExactMergeUptoRow : OpenClaim := { program := "ytakblgcheakbnaa", sum := "c2fa9fecca082e501bbf00820d67b889d5ed761a5c7b9b555de2b4c850e2aaf1", func := "loop.example/g00694/laws.FnExactMerge", spec := "fnExactMerge", unfollowed := true, recurses := true, plainKeys := false, apart := false, narrowed := true }
def FnExactMergeUptoSaid : Prop := fnExactMergeUptoRow.holds Try.pinned (OpenSpec.upto fnExactMergeSpec)

/-- 'laws.FnExactExtract', WHERE WHAT IT READS IS OF BULK AT MOST 1048576: true; the input reads as it did. -/
def fnExactExtractUptoRow : OpenClaim := { program := "ytakblgcheakbnaa", sum := "c2fa9fecca082e501bbf00820d67b889d5ed761a5c7b9b555de2b4c850e2aaf1", func := "loop.example/g00694/laws.FnExactExtract", spec := "fnExactExtract", unfollowed := true, recurses := true, plainKeys := false, apart := false, narrowed := true }
def FnExactExtractUptoSaid : Prop := fnExactExtractUptoRow.holds Try.pinned (OpenSpec.upto fnExactExtractSpec)

end Rows
end Go.Proofs.Ytakblgcheakbnaa
