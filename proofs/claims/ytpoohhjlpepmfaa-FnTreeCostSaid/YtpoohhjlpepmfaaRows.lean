/-
  NARROWER THAN 'FOR EVERY INPUT', by the rows' own cells (each row's printed sentence says how): FnExactTreeCost: loops.
  DERIVED. THE GIVEN ROWS OF THIS SEAT. 12 by the template 'for every input the law returns true; each argument reads behind the call as it read before'; 0 by the template 'total and deterministic' (their statements: YtpoohhjlpepmfaaTotals.lean).
  GIVEN WITH THE SEED: the statements are not yours to turn. If you find one false, say at which input.
  Laid BY PROGRAM, IN A SANDBOX (cutbox-rows.mjs): the forced cells as the released guide's own fill.sh prints them over the translation ca240b19f3beef43… (all of the seat's roots in one cut). By AI agents, Wed Nov 11 2026. No macro, syntax, notation, axiom, sorry.
-/
import Derived.Test.YtpoohhjlpepmfaaChecked
import GoSem.Claim
import GoSem.ClaimJoined
import GoSem.ClaimMapViews
import Derived.JoinedTies
import Derived.KernelRfl
namespace Go.Proofs.Ytpoohhjlpepmfaa
/- THE CELL 'sum', in the pinned program and in every row, IS THE sha256 OF THE DUMP (.gsa) THAT YtpoohhjlpepmfaaProg.lean LOADS. Nothing in Lean hashes anything: it is a label: what it is worth is what the hold of that sum in a sandbox is worth. -/
noncomputable def Try.pinned : Pinned := { name := "ytpoohhjlpepmfaa", sum := "ca240b19f3beef43317c937daf3d356e10bf1c0dfb8b4ec8284af1f5b2b05a51", checked := Try.checked }
namespace Rows
def none {H : Type} : Left H := { results := [], args := [] }

/-- 'laws.FnSubsetSize': WHATEVER THE INPUT: true; the input reads as it did. -/
def fnSubsetSizeSpec : ChangeSpec := { name := "fnSubsetSize", fn := fun _ => fun
  | [d] => { results := [.lit (.bool true)], args := [d] }
  | _ => none }
def fnSubsetSizeRow : OpenClaim := { program := "ytpoohhjlpepmfaa", sum := "ca240b19f3beef43317c937daf3d356e10bf1c0dfb8b4ec8284af1f5b2b05a51", func := "loop.example/queryoptimizer/laws.FnSubsetSize", spec := "fnSubsetSize", apart := false }
def FnSubsetSizeSaid : Prop := fnSubsetSizeRow.holds Try.pinned (OpenSpec.ofChange fnSubsetSizeSpec)

/-- ITS FALSE NEIGHBOUR: 'it returns false'. Refute it at one input. -/
def fnSubsetSizeWrong : ChangeSpec := { name := "fnSubsetSize", fn := fun _ => fun
  | [d] => { results := [.lit (.bool false)], args := [d] }
  | _ => none }
def FnSubsetSizeWrongFalsely : Prop := fnSubsetSizeRow.holds Try.pinned (OpenSpec.ofChange fnSubsetSizeWrong)

/-- 'laws.FnExactSubsetSize': WHATEVER THE INPUT: true; the input reads as it did. -/
def fnExactSubsetSizeSpec : ChangeSpec := { name := "fnExactSubsetSize", fn := fun _ => fun
  | [d1, d2] => { results := [.lit (.bool true)], args := [d1, d2] }
  | _ => none }
def fnExactSubsetSizeRow : OpenClaim := { program := "ytpoohhjlpepmfaa", sum := "ca240b19f3beef43317c937daf3d356e10bf1c0dfb8b4ec8284af1f5b2b05a51", func := "loop.example/queryoptimizer/laws.FnExactSubsetSize", spec := "fnExactSubsetSize", apart := false }
def FnExactSubsetSizeSaid : Prop := fnExactSubsetSizeRow.holds Try.pinned (OpenSpec.ofChange fnExactSubsetSizeSpec)

/-- ITS FALSE NEIGHBOUR: 'it returns false'. Refute it at one input. -/
def fnExactSubsetSizeWrong : ChangeSpec := { name := "fnExactSubsetSize", fn := fun _ => fun
  | [d1, d2] => { results := [.lit (.bool false)], args := [d1, d2] }
  | _ => none }
def FnExactSubsetSizeWrongFalsely : Prop := fnExactSubsetSizeRow.holds Try.pinned (OpenSpec.ofChange fnExactSubsetSizeWrong)

/-- 'laws.FnBestCosts': WHATEVER THE INPUT: true; the input reads as it did. -/
def fnBestCostsSpec : ChangeSpec := { name := "fnBestCosts", fn := fun _ => fun
  | [d] => { results := [.lit (.bool true)], args := [d] }
  | _ => none }
def fnBestCostsRow : OpenClaim := { program := "ytpoohhjlpepmfaa", sum := "ca240b19f3beef43317c937daf3d356e10bf1c0dfb8b4ec8284af1f5b2b05a51", func := "loop.example/queryoptimizer/laws.FnBestCosts", spec := "fnBestCosts", unfollowed := true, recurses := true, apart := false }
def FnBestCostsSaid : Prop := fnBestCostsRow.holds Try.pinned (OpenSpec.ofChange fnBestCostsSpec)

/-- ITS FALSE NEIGHBOUR: 'it returns false'. Refute it at one input. -/
def fnBestCostsWrong : ChangeSpec := { name := "fnBestCosts", fn := fun _ => fun
  | [d] => { results := [.lit (.bool false)], args := [d] }
  | _ => none }
def FnBestCostsWrongFalsely : Prop := fnBestCostsRow.holds Try.pinned (OpenSpec.ofChange fnBestCostsWrong)

/-- 'laws.FnExactCheckCosts': WHATEVER THE INPUT: true; the input reads as it did. -/
def fnExactCheckCostsSpec : ChangeSpec := { name := "fnExactCheckCosts", fn := fun _ => fun
  | [d1, d2] => { results := [.lit (.bool true)], args := [d1, d2] }
  | _ => none }
def fnExactCheckCostsRow : OpenClaim := { program := "ytpoohhjlpepmfaa", sum := "ca240b19f3beef43317c937daf3d356e10bf1c0dfb8b4ec8284af1f5b2b05a51", func := "loop.example/queryoptimizer/laws.FnExactCheckCosts", spec := "fnExactCheckCosts", unfollowed := true, recurses := true, apart := false }
def FnExactCheckCostsSaid : Prop := fnExactCheckCostsRow.holds Try.pinned (OpenSpec.ofChange fnExactCheckCostsSpec)

/-- ITS FALSE NEIGHBOUR: 'it returns false'. Refute it at one input. -/
def fnExactCheckCostsWrong : ChangeSpec := { name := "fnExactCheckCosts", fn := fun _ => fun
  | [d1, d2] => { results := [.lit (.bool false)], args := [d1, d2] }
  | _ => none }
def FnExactCheckCostsWrongFalsely : Prop := fnExactCheckCostsRow.holds Try.pinned (OpenSpec.ofChange fnExactCheckCostsWrong)

/-- 'laws.FnTreeCost': WHATEVER THE INPUT: true; the input reads as it did. -/
def fnTreeCostSpec : ChangeSpec := { name := "fnTreeCost", fn := fun _ => fun
  | [d] => { results := [.lit (.bool true)], args := [d] }
  | _ => none }
def fnTreeCostRow : OpenClaim := { program := "ytpoohhjlpepmfaa", sum := "ca240b19f3beef43317c937daf3d356e10bf1c0dfb8b4ec8284af1f5b2b05a51", func := "loop.example/queryoptimizer/laws.FnTreeCost", spec := "fnTreeCost", recurses := true, apart := false }
def FnTreeCostSaid : Prop := fnTreeCostRow.holds Try.pinned (OpenSpec.ofChange fnTreeCostSpec)

/-- ITS FALSE NEIGHBOUR: 'it returns false'. Refute it at one input. -/
def fnTreeCostWrong : ChangeSpec := { name := "fnTreeCost", fn := fun _ => fun
  | [d] => { results := [.lit (.bool false)], args := [d] }
  | _ => none }
def FnTreeCostWrongFalsely : Prop := fnTreeCostRow.holds Try.pinned (OpenSpec.ofChange fnTreeCostWrong)

/-- 'laws.FnExactBestCosts': WHATEVER THE INPUT: true; the input reads as it did. -/
def fnExactBestCostsSpec : ChangeSpec := { name := "fnExactBestCosts", fn := fun _ => fun
  | [d] => { results := [.lit (.bool true)], args := [d] }
  | _ => none }
def fnExactBestCostsRow : OpenClaim := { program := "ytpoohhjlpepmfaa", sum := "ca240b19f3beef43317c937daf3d356e10bf1c0dfb8b4ec8284af1f5b2b05a51", func := "loop.example/queryoptimizer/laws.FnExactBestCosts", spec := "fnExactBestCosts", unfollowed := true, recurses := true, apart := false }
def FnExactBestCostsSaid : Prop := fnExactBestCostsRow.holds Try.pinned (OpenSpec.ofChange fnExactBestCostsSpec)

/-- ITS FALSE NEIGHBOUR: 'it returns false'. Refute it at one input. -/
def fnExactBestCostsWrong : ChangeSpec := { name := "fnExactBestCosts", fn := fun _ => fun
  | [d] => { results := [.lit (.bool false)], args := [d] }
  | _ => none }
def FnExactBestCostsWrongFalsely : Prop := fnExactBestCostsRow.holds Try.pinned (OpenSpec.ofChange fnExactBestCostsWrong)

/-- 'laws.FnBestTree': WHATEVER THE INPUT: true; the input reads as it did. -/
def fnBestTreeSpec : ChangeSpec := { name := "fnBestTree", fn := fun _ => fun
  | [d] => { results := [.lit (.bool true)], args := [d] }
  | _ => none }
def fnBestTreeRow : OpenClaim := { program := "ytpoohhjlpepmfaa", sum := "ca240b19f3beef43317c937daf3d356e10bf1c0dfb8b4ec8284af1f5b2b05a51", func := "loop.example/queryoptimizer/laws.FnBestTree", spec := "fnBestTree", unfollowed := true, recurses := true, apart := false }
def FnBestTreeSaid : Prop := fnBestTreeRow.holds Try.pinned (OpenSpec.ofChange fnBestTreeSpec)

/-- ITS FALSE NEIGHBOUR: 'it returns false'. Refute it at one input. -/
def fnBestTreeWrong : ChangeSpec := { name := "fnBestTree", fn := fun _ => fun
  | [d] => { results := [.lit (.bool false)], args := [d] }
  | _ => none }
def FnBestTreeWrongFalsely : Prop := fnBestTreeRow.holds Try.pinned (OpenSpec.ofChange fnBestTreeWrong)

/-- 'laws.FnCheckCosts': WHATEVER THE INPUT: true; the input reads as it did. -/
def fnCheckCostsSpec : ChangeSpec := { name := "fnCheckCosts", fn := fun _ => fun
  | [d] => { results := [.lit (.bool true)], args := [d] }
  | _ => none }
def fnCheckCostsRow : OpenClaim := { program := "ytpoohhjlpepmfaa", sum := "ca240b19f3beef43317c937daf3d356e10bf1c0dfb8b4ec8284af1f5b2b05a51", func := "loop.example/queryoptimizer/laws.FnCheckCosts", spec := "fnCheckCosts", unfollowed := true, recurses := true, apart := false }
def FnCheckCostsSaid : Prop := fnCheckCostsRow.holds Try.pinned (OpenSpec.ofChange fnCheckCostsSpec)

/-- ITS FALSE NEIGHBOUR: 'it returns false'. Refute it at one input. -/
def fnCheckCostsWrong : ChangeSpec := { name := "fnCheckCosts", fn := fun _ => fun
  | [d] => { results := [.lit (.bool false)], args := [d] }
  | _ => none }
def FnCheckCostsWrongFalsely : Prop := fnCheckCostsRow.holds Try.pinned (OpenSpec.ofChange fnCheckCostsWrong)

/-- 'laws.FnBestOrder': WHATEVER THE INPUT: true; the input reads as it did. -/
def fnBestOrderSpec : ChangeSpec := { name := "fnBestOrder", fn := fun _ => fun
  | [d] => { results := [.lit (.bool true)], args := [d] }
  | _ => none }
def fnBestOrderRow : OpenClaim := { program := "ytpoohhjlpepmfaa", sum := "ca240b19f3beef43317c937daf3d356e10bf1c0dfb8b4ec8284af1f5b2b05a51", func := "loop.example/queryoptimizer/laws.FnBestOrder", spec := "fnBestOrder", unfollowed := true, recurses := true, apart := false }
def FnBestOrderSaid : Prop := fnBestOrderRow.holds Try.pinned (OpenSpec.ofChange fnBestOrderSpec)

/-- ITS FALSE NEIGHBOUR: 'it returns false'. Refute it at one input. -/
def fnBestOrderWrong : ChangeSpec := { name := "fnBestOrder", fn := fun _ => fun
  | [d] => { results := [.lit (.bool false)], args := [d] }
  | _ => none }
def FnBestOrderWrongFalsely : Prop := fnBestOrderRow.holds Try.pinned (OpenSpec.ofChange fnBestOrderWrong)

/-- 'laws.FnBestOfTrees': WHATEVER THE INPUT: true; the input reads as it did. -/
def fnBestOfTreesSpec : ChangeSpec := { name := "fnBestOfTrees", fn := fun _ => fun
  | [d] => { results := [.lit (.bool true)], args := [d] }
  | _ => none }
def fnBestOfTreesRow : OpenClaim := { program := "ytpoohhjlpepmfaa", sum := "ca240b19f3beef43317c937daf3d356e10bf1c0dfb8b4ec8284af1f5b2b05a51", func := "loop.example/queryoptimizer/laws.FnBestOfTrees", spec := "fnBestOfTrees", unfollowed := true, recurses := true, apart := false }
def FnBestOfTreesSaid : Prop := fnBestOfTreesRow.holds Try.pinned (OpenSpec.ofChange fnBestOfTreesSpec)

/-- ITS FALSE NEIGHBOUR: 'it returns false'. Refute it at one input. -/
def fnBestOfTreesWrong : ChangeSpec := { name := "fnBestOfTrees", fn := fun _ => fun
  | [d] => { results := [.lit (.bool false)], args := [d] }
  | _ => none }
def FnBestOfTreesWrongFalsely : Prop := fnBestOfTreesRow.holds Try.pinned (OpenSpec.ofChange fnBestOfTreesWrong)

/-- 'laws.FnExactBestOrder': WHATEVER THE INPUT: true; the input reads as it did. -/
def fnExactBestOrderSpec : ChangeSpec := { name := "fnExactBestOrder", fn := fun _ => fun
  | [d] => { results := [.lit (.bool true)], args := [d] }
  | _ => none }
def fnExactBestOrderRow : OpenClaim := { program := "ytpoohhjlpepmfaa", sum := "ca240b19f3beef43317c937daf3d356e10bf1c0dfb8b4ec8284af1f5b2b05a51", func := "loop.example/queryoptimizer/laws.FnExactBestOrder", spec := "fnExactBestOrder", unfollowed := true, recurses := true, apart := false }
def FnExactBestOrderSaid : Prop := fnExactBestOrderRow.holds Try.pinned (OpenSpec.ofChange fnExactBestOrderSpec)

/-- ITS FALSE NEIGHBOUR: 'it returns false'. Refute it at one input. -/
def fnExactBestOrderWrong : ChangeSpec := { name := "fnExactBestOrder", fn := fun _ => fun
  | [d] => { results := [.lit (.bool false)], args := [d] }
  | _ => none }
def FnExactBestOrderWrongFalsely : Prop := fnExactBestOrderRow.holds Try.pinned (OpenSpec.ofChange fnExactBestOrderWrong)

/-- 'laws.FnExactTreeCost': WHATEVER THE INPUT: true; the input reads as it did. -/
def fnExactTreeCostSpec : ChangeSpec := { name := "fnExactTreeCost", fn := fun _ => fun
  | [d1, d2] => { results := [.lit (.bool true)], args := [d1, d2] }
  | _ => none }
def fnExactTreeCostRow : OpenClaim := { program := "ytpoohhjlpepmfaa", sum := "ca240b19f3beef43317c937daf3d356e10bf1c0dfb8b4ec8284af1f5b2b05a51", func := "loop.example/queryoptimizer/laws.FnExactTreeCost", spec := "fnExactTreeCost", recurses := true, loops := true, apart := false }
def FnExactTreeCostSaid : Prop := fnExactTreeCostRow.holds Try.pinned (OpenSpec.ofChange fnExactTreeCostSpec)

/-- ITS FALSE NEIGHBOUR: 'it returns false'. Refute it at one input. -/
def fnExactTreeCostWrong : ChangeSpec := { name := "fnExactTreeCost", fn := fun _ => fun
  | [d1, d2] => { results := [.lit (.bool false)], args := [d1, d2] }
  | _ => none }
def FnExactTreeCostWrongFalsely : Prop := fnExactTreeCostRow.holds Try.pinned (OpenSpec.ofChange fnExactTreeCostWrong)

/- THE SECOND FORM. 'bulk': how many values and letters a reading holds, each counted each time it is reached (what is shared counts as often as it is met; a slice's spare places count too). A statement '..UptoSaid' is the law's where the arguments, and the package variables that the reading takes, are together of bulk at most 1048576: NARROWER than '..Said'. Prove '..Said' where nothing that the law and all that it calls make is longer than what came in: it says more and counts as full. Else prove '..UptoSaid'. A law counts once. -/
mutual
def uptoBulk {H : Type} : DataW H → Nat
  | .lit (.string bytes) => bytes.length + 1
  | .lit _ => 1
  | .nil => 1
  | .ptr d => uptoBulk d + 1
  | .slice elems spare => uptoBulkAll elems + uptoBulkAll spare + 1
  | .agg parts => uptoBulkAll parts + 1
  | .iface _ d => uptoBulk d + 1
  | .map entries => uptoBulkEntries entries + 1
  | .held _ => 1
def uptoBulkAll {H : Type} : List (DataW H) → Nat
  | [] => 0
  | d :: r => uptoBulk d + uptoBulkAll r
def uptoBulkEntries {H : Type} : List (Lit × DataW H) → Nat
  | [] => 0
  | x :: r => uptoBulkEntry x + uptoBulkEntries r
def uptoBulkEntry {H : Type} : Lit × DataW H → Nat
  | (.string bytes, d) => bytes.length + uptoBulk d + 1
  | (_, d) => uptoBulk d + 1
 end
def uptoSmall : (H : Type) → List (DataW H) → Bool := fun _ ds => decide (uptoBulkAll ds ≤ 1048576)
def OpenSpec.upto (s : _root_.Go.ChangeSpec) : _root_.Go.OpenSpec := { _root_.Go.OpenSpec.ofChange s with cond := some uptoSmall }

/-- 'laws.FnSubsetSize', WHERE WHAT IT READS IS OF BULK AT MOST 1048576: true; the input reads as it did. -/
def fnSubsetSizeUptoRow : OpenClaim := { program := "ytpoohhjlpepmfaa", sum := "ca240b19f3beef43317c937daf3d356e10bf1c0dfb8b4ec8284af1f5b2b05a51", func := "loop.example/queryoptimizer/laws.FnSubsetSize", spec := "fnSubsetSize", apart := false, narrowed := true }
def FnSubsetSizeUptoSaid : Prop := fnSubsetSizeUptoRow.holds Try.pinned (OpenSpec.upto fnSubsetSizeSpec)

/-- 'laws.FnExactSubsetSize', WHERE WHAT IT READS IS OF BULK AT MOST 1048576: true; the input reads as it did. -/
def fnExactSubsetSizeUptoRow : OpenClaim := { program := "ytpoohhjlpepmfaa", sum := "ca240b19f3beef43317c937daf3d356e10bf1c0dfb8b4ec8284af1f5b2b05a51", func := "loop.example/queryoptimizer/laws.FnExactSubsetSize", spec := "fnExactSubsetSize", apart := false, narrowed := true }
def FnExactSubsetSizeUptoSaid : Prop := fnExactSubsetSizeUptoRow.holds Try.pinned (OpenSpec.upto fnExactSubsetSizeSpec)

/-- 'laws.FnBestCosts', WHERE WHAT IT READS IS OF BULK AT MOST 1048576: true; the input reads as it did. -/
def fnBestCostsUptoRow : OpenClaim := { program := "ytpoohhjlpepmfaa", sum := "ca240b19f3beef43317c937daf3d356e10bf1c0dfb8b4ec8284af1f5b2b05a51", func := "loop.example/queryoptimizer/laws.FnBestCosts", spec := "fnBestCosts", unfollowed := true, recurses := true, apart := false, narrowed := true }
def FnBestCostsUptoSaid : Prop := fnBestCostsUptoRow.holds Try.pinned (OpenSpec.upto fnBestCostsSpec)

/-- 'laws.FnExactCheckCosts', WHERE WHAT IT READS IS OF BULK AT MOST 1048576: true; the input reads as it did. -/
def fnExactCheckCostsUptoRow : OpenClaim := { program := "ytpoohhjlpepmfaa", sum := "ca240b19f3beef43317c937daf3d356e10bf1c0dfb8b4ec8284af1f5b2b05a51", func := "loop.example/queryoptimizer/laws.FnExactCheckCosts", spec := "fnExactCheckCosts", unfollowed := true, recurses := true, apart := false, narrowed := true }
def FnExactCheckCostsUptoSaid : Prop := fnExactCheckCostsUptoRow.holds Try.pinned (OpenSpec.upto fnExactCheckCostsSpec)

/-- 'laws.FnTreeCost', WHERE WHAT IT READS IS OF BULK AT MOST 1048576: true; the input reads as it did. -/
def fnTreeCostUptoRow : OpenClaim := { program := "ytpoohhjlpepmfaa", sum := "ca240b19f3beef43317c937daf3d356e10bf1c0dfb8b4ec8284af1f5b2b05a51", func := "loop.example/queryoptimizer/laws.FnTreeCost", spec := "fnTreeCost", recurses := true, apart := false, narrowed := true }
def FnTreeCostUptoSaid : Prop := fnTreeCostUptoRow.holds Try.pinned (OpenSpec.upto fnTreeCostSpec)

/-- 'laws.FnExactBestCosts', WHERE WHAT IT READS IS OF BULK AT MOST 1048576: true; the input reads as it did. -/
def fnExactBestCostsUptoRow : OpenClaim := { program := "ytpoohhjlpepmfaa", sum := "ca240b19f3beef43317c937daf3d356e10bf1c0dfb8b4ec8284af1f5b2b05a51", func := "loop.example/queryoptimizer/laws.FnExactBestCosts", spec := "fnExactBestCosts", unfollowed := true, recurses := true, apart := false, narrowed := true }
def FnExactBestCostsUptoSaid : Prop := fnExactBestCostsUptoRow.holds Try.pinned (OpenSpec.upto fnExactBestCostsSpec)

/-- 'laws.FnBestTree', WHERE WHAT IT READS IS OF BULK AT MOST 1048576: true; the input reads as it did. -/
def fnBestTreeUptoRow : OpenClaim := { program := "ytpoohhjlpepmfaa", sum := "ca240b19f3beef43317c937daf3d356e10bf1c0dfb8b4ec8284af1f5b2b05a51", func := "loop.example/queryoptimizer/laws.FnBestTree", spec := "fnBestTree", unfollowed := true, recurses := true, apart := false, narrowed := true }
def FnBestTreeUptoSaid : Prop := fnBestTreeUptoRow.holds Try.pinned (OpenSpec.upto fnBestTreeSpec)

/-- 'laws.FnCheckCosts', WHERE WHAT IT READS IS OF BULK AT MOST 1048576: true; the input reads as it did. -/
def fnCheckCostsUptoRow : OpenClaim := { program := "ytpoohhjlpepmfaa", sum := "ca240b19f3beef43317c937daf3d356e10bf1c0dfb8b4ec8284af1f5b2b05a51", func := "loop.example/queryoptimizer/laws.FnCheckCosts", spec := "fnCheckCosts", unfollowed := true, recurses := true, apart := false, narrowed := true }
def FnCheckCostsUptoSaid : Prop := fnCheckCostsUptoRow.holds Try.pinned (OpenSpec.upto fnCheckCostsSpec)

/-- 'laws.FnBestOrder', WHERE WHAT IT READS IS OF BULK AT MOST 1048576: true; the input reads as it did. -/
def fnBestOrderUptoRow : OpenClaim := { program := "ytpoohhjlpepmfaa", sum := "ca240b19f3beef43317c937daf3d356e10bf1c0dfb8b4ec8284af1f5b2b05a51", func := "loop.example/queryoptimizer/laws.FnBestOrder", spec := "fnBestOrder", unfollowed := true, recurses := true, apart := false, narrowed := true }
def FnBestOrderUptoSaid : Prop := fnBestOrderUptoRow.holds Try.pinned (OpenSpec.upto fnBestOrderSpec)

/-- 'laws.FnBestOfTrees', WHERE WHAT IT READS IS OF BULK AT MOST 1048576: true; the input reads as it did. -/
def fnBestOfTreesUptoRow : OpenClaim := { program := "ytpoohhjlpepmfaa", sum := "ca240b19f3beef43317c937daf3d356e10bf1c0dfb8b4ec8284af1f5b2b05a51", func := "loop.example/queryoptimizer/laws.FnBestOfTrees", spec := "fnBestOfTrees", unfollowed := true, recurses := true, apart := false, narrowed := true }
def FnBestOfTreesUptoSaid : Prop := fnBestOfTreesUptoRow.holds Try.pinned (OpenSpec.upto fnBestOfTreesSpec)

/-- 'laws.FnExactBestOrder', WHERE WHAT IT READS IS OF BULK AT MOST 1048576: true; the input reads as it did. -/
def fnExactBestOrderUptoRow : OpenClaim := { program := "ytpoohhjlpepmfaa", sum := "ca240b19f3beef43317c937daf3d356e10bf1c0dfb8b4ec8284af1f5b2b05a51", func := "loop.example/queryoptimizer/laws.FnExactBestOrder", spec := "fnExactBestOrder", unfollowed := true, recurses := true, apart := false, narrowed := true }
def FnExactBestOrderUptoSaid : Prop := fnExactBestOrderUptoRow.holds Try.pinned (OpenSpec.upto fnExactBestOrderSpec)

/-- 'laws.FnExactTreeCost', WHERE WHAT IT READS IS OF BULK AT MOST 1048576: true; the input reads as it did. -/
def fnExactTreeCostUptoRow : OpenClaim := { program := "ytpoohhjlpepmfaa", sum := "ca240b19f3beef43317c937daf3d356e10bf1c0dfb8b4ec8284af1f5b2b05a51", func := "loop.example/queryoptimizer/laws.FnExactTreeCost", spec := "fnExactTreeCost", recurses := true, loops := true, apart := false, narrowed := true }
def FnExactTreeCostUptoSaid : Prop := fnExactTreeCostUptoRow.holds Try.pinned (OpenSpec.upto fnExactTreeCostSpec)

end Rows
end Go.Proofs.Ytpoohhjlpepmfaa
