/-
  No cell of these rows narrows 'for every input' (looked for: loops, veiled, ifaces, maps, wideKeys, modest, calm, conditions, laid).
  DERIVED. THE GIVEN ROWS OF THIS SEAT. 5 by the template 'for every input the law returns true; each argument reads behind the call as it read before'; 0 by the template 'total and deterministic' (their statements: YtpklnipnggocoaaTotals.lean).
  GIVEN WITH THE SEED: the statements are not yours to turn. If you find one false, say at which input.
  Laid BY PROGRAM, IN A SANDBOX (cutbox-rows.mjs): the forced cells as the released guide's own fill.sh prints them over the translation 0932850127030c22… (all of the seat's roots in one cut). By AI agents, Wed Nov 11 2026. No macro, syntax, notation, axiom, sorry.
-/
import Derived.Test.YtpklnipnggocoaaChecked
import GoSem.Claim
import GoSem.ClaimJoined
import GoSem.ClaimMapViews
import Derived.JoinedTies
import Derived.KernelRfl
namespace Go.Proofs.Ytpklnipnggocoaa
/- THE CELL 'sum', in the pinned program and in every row, IS THE sha256 OF THE DUMP (.gsa) THAT YtpklnipnggocoaaProg.lean LOADS. Nothing in Lean hashes anything: it is a label: what it is worth is what the hold of that sum in a sandbox is worth. -/
noncomputable def Try.pinned : Pinned := { name := "ytpklnipnggocoaa", sum := "0932850127030c22376631b565baba3ff7e784a8f3720c8bc31bc4db2b3d29f1", checked := Try.checked }
namespace Rows
def none {H : Type} : Left H := { results := [], args := [] }

/-- 'laws.FnExactRunFunc': WHATEVER THE INPUT: true; the input reads as it did. -/
def fnExactRunFuncSpec : ChangeSpec := { name := "fnExactRunFunc", fn := fun _ => fun
  | [d1, d2, d3, d4] => { results := [.lit (.bool true)], args := [d1, d2, d3, d4] }
  | _ => none }
def fnExactRunFuncRow : OpenClaim := { program := "ytpklnipnggocoaa", sum := "0932850127030c22376631b565baba3ff7e784a8f3720c8bc31bc4db2b3d29f1", func := "loop.example/g00694/laws.FnExactRunFunc", spec := "fnExactRunFunc", unfollowed := true, recurses := true, apart := false }
def FnExactRunFuncSaid : Prop := fnExactRunFuncRow.holds Try.pinned (OpenSpec.ofChange fnExactRunFuncSpec)

/-- ITS FALSE NEIGHBOUR: 'it returns false'. Refute it at one input. -/
def fnExactRunFuncWrong : ChangeSpec := { name := "fnExactRunFunc", fn := fun _ => fun
  | [d1, d2, d3, d4] => { results := [.lit (.bool false)], args := [d1, d2, d3, d4] }
  | _ => none }
def FnExactRunFuncWrongFalsely : Prop := fnExactRunFuncRow.holds Try.pinned (OpenSpec.ofChange fnExactRunFuncWrong)

/-- 'laws.FnExactGoodFunc': WHATEVER THE INPUT: true; the input reads as it did. -/
def fnExactGoodFuncSpec : ChangeSpec := { name := "fnExactGoodFunc", fn := fun _ => fun
  | [d] => { results := [.lit (.bool true)], args := [d] }
  | _ => none }
def fnExactGoodFuncRow : OpenClaim := { program := "ytpklnipnggocoaa", sum := "0932850127030c22376631b565baba3ff7e784a8f3720c8bc31bc4db2b3d29f1", func := "loop.example/g00694/laws.FnExactGoodFunc", spec := "fnExactGoodFunc", unfollowed := true, recurses := true, apart := false }
def FnExactGoodFuncSaid : Prop := fnExactGoodFuncRow.holds Try.pinned (OpenSpec.ofChange fnExactGoodFuncSpec)

/-- ITS FALSE NEIGHBOUR: 'it returns false'. Refute it at one input. -/
def fnExactGoodFuncWrong : ChangeSpec := { name := "fnExactGoodFunc", fn := fun _ => fun
  | [d] => { results := [.lit (.bool false)], args := [d] }
  | _ => none }
def FnExactGoodFuncWrongFalsely : Prop := fnExactGoodFuncRow.holds Try.pinned (OpenSpec.ofChange fnExactGoodFuncWrong)

/-- 'laws.FnExactCountValues': WHATEVER THE INPUT: true; the input reads as it did. -/
def fnExactCountValuesSpec : ChangeSpec := { name := "fnExactCountValues", fn := fun _ => fun
  | [d] => { results := [.lit (.bool true)], args := [d] }
  | _ => none }
def fnExactCountValuesRow : OpenClaim := { program := "ytpklnipnggocoaa", sum := "0932850127030c22376631b565baba3ff7e784a8f3720c8bc31bc4db2b3d29f1", func := "loop.example/g00694/laws.FnExactCountValues", spec := "fnExactCountValues", unfollowed := true, recurses := true, apart := false }
def FnExactCountValuesSaid : Prop := fnExactCountValuesRow.holds Try.pinned (OpenSpec.ofChange fnExactCountValuesSpec)

/-- ITS FALSE NEIGHBOUR: 'it returns false'. Refute it at one input. -/
def fnExactCountValuesWrong : ChangeSpec := { name := "fnExactCountValues", fn := fun _ => fun
  | [d] => { results := [.lit (.bool false)], args := [d] }
  | _ => none }
def FnExactCountValuesWrongFalsely : Prop := fnExactCountValuesRow.holds Try.pinned (OpenSpec.ofChange fnExactCountValuesWrong)

/-- 'laws.FnExactFirstOf': WHATEVER THE INPUT: true; the input reads as it did. -/
def fnExactFirstOfSpec : ChangeSpec := { name := "fnExactFirstOf", fn := fun _ => fun
  | [d1, d2] => { results := [.lit (.bool true)], args := [d1, d2] }
  | _ => none }
def fnExactFirstOfRow : OpenClaim := { program := "ytpklnipnggocoaa", sum := "0932850127030c22376631b565baba3ff7e784a8f3720c8bc31bc4db2b3d29f1", func := "loop.example/g00694/laws.FnExactFirstOf", spec := "fnExactFirstOf", unfollowed := true, recurses := true, apart := false }
def FnExactFirstOfSaid : Prop := fnExactFirstOfRow.holds Try.pinned (OpenSpec.ofChange fnExactFirstOfSpec)

/-- ITS FALSE NEIGHBOUR: 'it returns false'. Refute it at one input. -/
def fnExactFirstOfWrong : ChangeSpec := { name := "fnExactFirstOf", fn := fun _ => fun
  | [d1, d2] => { results := [.lit (.bool false)], args := [d1, d2] }
  | _ => none }
def FnExactFirstOfWrongFalsely : Prop := fnExactFirstOfRow.holds Try.pinned (OpenSpec.ofChange fnExactFirstOfWrong)

/-- 'laws.FnExactCostOfFunc': WHATEVER THE INPUT: true; the input reads as it did. -/
def fnExactCostOfFuncSpec : ChangeSpec := { name := "fnExactCostOfFunc", fn := fun _ => fun
  | [d] => { results := [.lit (.bool true)], args := [d] }
  | _ => none }
def fnExactCostOfFuncRow : OpenClaim := { program := "ytpklnipnggocoaa", sum := "0932850127030c22376631b565baba3ff7e784a8f3720c8bc31bc4db2b3d29f1", func := "loop.example/g00694/laws.FnExactCostOfFunc", spec := "fnExactCostOfFunc", unfollowed := true, recurses := true, apart := false }
def FnExactCostOfFuncSaid : Prop := fnExactCostOfFuncRow.holds Try.pinned (OpenSpec.ofChange fnExactCostOfFuncSpec)

/-- ITS FALSE NEIGHBOUR: 'it returns false'. Refute it at one input. -/
def fnExactCostOfFuncWrong : ChangeSpec := { name := "fnExactCostOfFunc", fn := fun _ => fun
  | [d] => { results := [.lit (.bool false)], args := [d] }
  | _ => none }
def FnExactCostOfFuncWrongFalsely : Prop := fnExactCostOfFuncRow.holds Try.pinned (OpenSpec.ofChange fnExactCostOfFuncWrong)

/- THE SECOND FORM. 'bulk': how many values and letters a reading holds, each counted each time it is reached (what is shared counts as often as it is met; a slice's spare places count too). A statement '..UptoSaid' is the law's where the arguments, and the package variables that the reading takes, are together of bulk at most 1048576: NARROWER than '..Said'. Prove '..Said' where nothing that the law and all that it calls make is longer than what came in: it says more and counts as full. Else prove '..UptoSaid'. A law counts once. -/
mutual
def uptoBulk {H : Type} : DataW H → Nat
  | .lit (.string bytes) => bytes.length + 1
  | .lit _ => 1
  | .nil => 1
  | .ptr d => uptoBulk d + 1
  | .slice elems spare => uptoBulkAll elems + uptoBulkAll spare + 1
  | .agg parts => uptoBulkAll parts + 1
  | .iface _ d => uptoBulk d + 1
  | .map entries => uptoBulkEntries entries + 1
  | .held _ => 1
def uptoBulkAll {H : Type} : List (DataW H) → Nat
  | [] => 0
  | d :: r => uptoBulk d + uptoBulkAll r
def uptoBulkEntries {H : Type} : List (Lit × DataW H) → Nat
  | [] => 0
  | x :: r => uptoBulkEntry x + uptoBulkEntries r
def uptoBulkEntry {H : Type} : Lit × DataW H → Nat
  | (.string bytes, d) => bytes.length + uptoBulk d + 1
  | (_, d) => uptoBulk d + 1
 end
def uptoSmall : (H : Type) → List (DataW H) → Bool := fun _ ds => decide (uptoBulkAll ds ≤ 1048576)
def OpenSpec.upto (s : _root_.Go.ChangeSpec) : _root_.Go.OpenSpec := { _root_.Go.OpenSpec.ofChange s with cond := some uptoSmall }

/-- 'laws.FnExactRunFunc', WHERE WHAT IT READS IS OF BULK AT MOST 1048576: true; the input reads as it did. -/
def fnExactRunFuncUptoRow : OpenClaim := { program := "ytpklnipnggocoaa", sum := "0932850127030c22376631b565baba3ff7e784a8f3720c8bc31bc4db2b3d29f1", func := "loop.example/g00694/laws.FnExactRunFunc", spec := "fnExactRunFunc", unfollowed := true, recurses := true, apart := false, narrowed := true }
def FnExactRunFuncUptoSaid : Prop := fnExactRunFuncUptoRow.holds Try.pinned (OpenSpec.upto fnExactRunFuncSpec)

/-- 'laws.FnExactGoodFunc', WHERE WHAT IT READS IS OF BULK AT MOST 1048576: true; the input reads as it did. -/
def fnExactGoodFuncUptoRow : OpenClaim := { program := "ytpklnipnggocoaa", sum := "0932850127030c22376631b565baba3ff7e784a8f3720c8bc31bc4db2b3d29f1", func := "loop.example/g00694/laws.FnExactGoodFunc", spec := "fnExactGoodFunc", unfollowed := true, recurses := true, apart := false, narrowed := true }
def FnExactGoodFuncUptoSaid : Prop := fnExactGoodFuncUptoRow.holds Try.pinned (OpenSpec.upto fnExactGoodFuncSpec)

/-- 'laws.FnExactCountValues', WHERE WHAT IT READS IS OF BULK AT MOST 1048576: true; the input reads as it did. -/
def fnExactCountValuesUptoRow : OpenClaim := { program := "ytpklnipnggocoaa", sum := "0932850127030c22376631b565baba3ff7e784a8f3720c8bc31bc4db2b3d29f1", func := "loop.example/g00694/laws.FnExactCountValues", spec := "fnExactCountValues", unfollowed := true, recurses := true, apart := false, narrowed := true }
def FnExactCountValuesUptoSaid : Prop := fnExactCountValuesUptoRow.holds Try.pinned (OpenSpec.upto fnExactCountValuesSpec)

/-- 'laws.FnExactFirstOf', WHERE WHAT IT READS IS OF BULK AT MOST 1048576: true; the input reads as it did. -/
def fnExactFirstOfUptoRow : OpenClaim := { program := "ytpklnipnggocoaa", sum := "0932850127030c22376631b565baba3ff7e784a8f3720c8bc31bc4db2b3d29f1", func := "loop.example/g00694/laws.FnExactFirstOf", spec := "fnExactFirstOf", unfollowed := true, recurses := true, apart := false, narrowed := true }
def FnExactFirstOfUptoSaid : Prop := fnExactFirstOfUptoRow.holds Try.pinned (OpenSpec.upto fnExactFirstOfSpec)

/-- 'laws.FnExactCostOfFunc', WHERE WHAT IT READS IS OF BULK AT MOST 1048576: true; the input reads as it did. -/
def fnExactCostOfFuncUptoRow : OpenClaim := { program := "ytpklnipnggocoaa", sum := "0932850127030c22376631b565baba3ff7e784a8f3720c8bc31bc4db2b3d29f1", func := "loop.example/g00694/laws.FnExactCostOfFunc", spec := "fnExactCostOfFunc", unfollowed := true, recurses := true, apart := false, narrowed := true }
def FnExactCostOfFuncUptoSaid : Prop := fnExactCostOfFuncUptoRow.holds Try.pinned (OpenSpec.upto fnExactCostOfFuncSpec)

end Rows
end Go.Proofs.Ytpklnipnggocoaa
