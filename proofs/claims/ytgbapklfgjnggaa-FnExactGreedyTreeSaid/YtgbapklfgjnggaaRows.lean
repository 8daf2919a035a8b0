/-
  NARROWER THAN 'FOR EVERY INPUT', by the rows' own cells (each row's printed sentence says how): FnExactTreeCost: loops.
  DERIVED. THE GIVEN ROWS OF THIS SEAT. 12 by the template 'for every input the law returns true; each argument reads behind the call as it read before'; 0 by the template 'total and deterministic' (their statements: YtgbapklfgjnggaaTotals.lean).
  GIVEN WITH THE SEED: the statements are not yours to turn. If you find one false, say at which input.
  Laid BY PROGRAM, IN A SANDBOX (cutbox-rows.mjs): the forced cells as the released guide's own fill.sh prints them over the translation d8f10782d82f31e3… (all of the seat's roots in one cut). By AI agents, Wed Nov 11 2026. No macro, syntax, notation, axiom, sorry.
-/
import Derived.Test.YtgbapklfgjnggaaChecked
import GoSem.Claim
import GoSem.ClaimJoined
import GoSem.ClaimMapViews
import Derived.JoinedTies
import Derived.KernelRfl
namespace Go.Proofs.Ytgbapklfgjnggaa
/- THE CELL 'sum', in the pinned program and in every row, IS THE sha256 OF THE DUMP (.gsa) THAT YtgbapklfgjnggaaProg.lean LOADS. Nothing in Lean hashes anything: it is a label: what it is worth is what the hold of that sum in a sandbox is worth. -/
noncomputable def Try.pinned : Pinned := { name := "ytgbapklfgjnggaa", sum := "d8f10782d82f31e30017fb381fb703dac7ce711179d5ae8d943f92ac58ed13f8", checked := Try.checked }
namespace Rows
def none {H : Type} : Left H := { results := [], args := [] }

/-- 'laws.FnSubsetSize': WHATEVER THE INPUT: true; the input reads as it did. -/
def fnSubsetSizeSpec : ChangeSpec := { name := "fnSubsetSize", fn := fun _ => fun
  | [d] => { results := [.lit (.bool true)], args := [d] }
  | _ => none }
def fnSubsetSizeRow : OpenClaim := { program := "ytgbapklfgjnggaa", sum := "d8f10782d82f31e30017fb381fb703dac7ce711179d5ae8d943f92ac58ed13f8", func := "loop.example/queryoptimizer/laws.FnSubsetSize", spec := "fnSubsetSize", apart := false }
def FnSubsetSizeSaid : Prop := fnSubsetSizeRow.holds Try.pinned (OpenSpec.ofChange fnSubsetSizeSpec)

/-- ITS FALSE NEIGHBOUR: 'it returns false'. Refute it at one input. -/
def fnSubsetSizeWrong : ChangeSpec := { name := "fnSubsetSize", fn := fun _ => fun
  | [d] => { results := [.lit (.bool false)], args := [d] }
  | _ => none }
def FnSubsetSizeWrongFalsely : Prop := fnSubsetSizeRow.holds Try.pinned (OpenSpec.ofChange fnSubsetSizeWrong)

/-- 'laws.FnExactSubsetSize': WHATEVER THE INPUT: true; the input reads as it did. -/
def fnExactSubsetSizeSpec : ChangeSpec := { name := "fnExactSubsetSize", fn := fun _ => fun
  | [d1, d2] => { results := [.lit (.bool true)], args := [d1, d2] }
  | _ => none }
def fnExactSubsetSizeRow : OpenClaim := { program := "ytgbapklfgjnggaa", sum := "d8f10782d82f31e30017fb381fb703dac7ce711179d5ae8d943f92ac58ed13f8", func := "loop.example/queryoptimizer/laws.FnExactSubsetSize", spec := "fnExactSubsetSize", apart := false }
def FnExactSubsetSizeSaid : Prop := fnExactSubsetSizeRow.holds Try.pinned (OpenSpec.ofChange fnExactSubsetSizeSpec)

/-- ITS FALSE NEIGHBOUR: 'it returns false'. Refute it at one input. -/
def fnExactSubsetSizeWrong : ChangeSpec := { name := "fnExactSubsetSize", fn := fun _ => fun
  | [d1, d2] => { results := [.lit (.bool false)], args := [d1, d2] }
  | _ => none }
def FnExactSubsetSizeWrongFalsely : Prop := fnExactSubsetSizeRow.holds Try.pinned (OpenSpec.ofChange fnExactSubsetSizeWrong)

/-- 'laws.FnBestCosts': WHATEVER THE INPUT: true; the input reads as it did. -/
def fnBestCostsSpec : ChangeSpec := { name := "fnBestCosts", fn := fun _ => fun
  | [d] => { results := [.lit (.bool true)], args := [d] }
  | _ => none }
def fnBestCostsRow : OpenClaim := { program := "ytgbapklfgjnggaa", sum := "d8f10782d82f31e30017fb381fb703dac7ce711179d5ae8d943f92ac58ed13f8", func := "loop.example/queryoptimizer/laws.FnBestCosts", spec := "fnBestCosts", unfollowed := true, recurses := true, apart := false }
def FnBestCostsSaid : Prop := fnBestCostsRow.holds Try.pinned (OpenSpec.ofChange fnBestCostsSpec)

/-- ITS FALSE NEIGHBOUR: 'it returns false'. Refute it at one input. -/
def fnBestCostsWrong : ChangeSpec := { name := "fnBestCosts", fn := fun _ => fun
  | [d] => { results := [.lit (.bool false)], args := [d] }
  | _ => none }
def FnBestCostsWrongFalsely : Prop := fnBestCostsRow.holds Try.pinned (OpenSpec.ofChange fnBestCostsWrong)

/-- 'laws.FnExactCheckCosts': WHATEVER THE INPUT: true; the input reads as it did. -/
def fnExactCheckCostsSpec : ChangeSpec := { name := "fnExactCheckCosts", fn := fun _ => fun
  | [d1, d2] => { results := [.lit (.bool true)], args := [d1, d2] }
  | _ => none }
def fnExactCheckCostsRow : OpenClaim := { program := "ytgbapklfgjnggaa", sum := "d8f10782d82f31e30017fb381fb703dac7ce711179d5ae8d943f92ac58ed13f8", func := "loop.example/queryoptimizer/laws.FnExactCheckCosts", spec := "fnExactCheckCosts", unfollowed := true, recurses := true, apart := false }
def FnExactCheckCostsSaid : Prop := fnExactCheckCostsRow.holds Try.pinned (OpenSpec.ofChange fnExactCheckCostsSpec)

/-- ITS FALSE NEIGHBOUR: 'it returns false'. Refute it at one input. -/
def fnExactCheckCostsWrong : ChangeSpec := { name := "fnExactCheckCosts", fn := fun _ => fun
  | [d1, d2] => { results := [.lit (.bool false)], args := [d1, d2] }
  | _ => none }
def FnExactCheckCostsWrongFalsely : Prop := fnExactCheckCostsRow.holds Try.pinned (OpenSpec.ofChange fnExactCheckCostsWrong)

/-- 'laws.FnTreeCost': WHATEVER THE INPUT: true; the input reads as it did. -/
def fnTreeCostSpec : ChangeSpec := { name := "fnTreeCost", fn := fun _ => fun
  | [d] => { results := [.lit (.bool true)], args := [d] }
  | _ => none }
def fnTreeCostRow : OpenClaim := { program := "ytgbapklfgjnggaa", sum := "d8f10782d82f31e30017fb381fb703dac7ce711179d5ae8d943f92ac58ed13f8", func := "loop.example/queryoptimizer/laws.FnTreeCost", spec := "fnTreeCost", recurses := true, apart := false }
def FnTreeCostSaid : Prop := fnTreeCostRow.holds Try.pinned (OpenSpec.ofChange fnTreeCostSpec)

/-- ITS FALSE NEIGHBOUR: 'it returns false'. Refute it at one input. -/
def fnTreeCostWrong : ChangeSpec := { name := "fnTreeCost", fn := fun _ => fun
  | [d] => { results := [.lit (.bool false)], args := [d] }
  | _ => none }
def FnTreeCostWrongFalsely : Prop := fnTreeCostRow.holds Try.pinned (OpenSpec.ofChange fnTreeCostWrong)

/-- 'laws.FnExactBestCosts': WHATEVER THE INPUT: true; the input reads as it did. -/
def fnExactBestCostsSpec : ChangeSpec := { name := "fnExactBestCosts", fn := fun _ => fun
  | [d] => { results := [.lit (.bool true)], args := [d] }
  | _ => none }
def fnExactBestCostsRow : OpenClaim := { program := "ytgbapklfgjnggaa", sum := "d8f10782d82f31e30017fb381fb703dac7ce711179d5ae8d943f92ac58ed13f8", func := "loop.example/queryoptimizer/laws.FnExactBestCosts", spec := "fnExactBestCosts", unfollowed := true, recurses := true, apart := false }
def FnExactBestCostsSaid : Prop := fnExactBestCostsRow.holds Try.pinned (OpenSpec.ofChange fnExactBestCostsSpec)

/-- ITS FALSE NEIGHBOUR: 'it returns false'. Refute it at one input. -/
def fnExactBestCostsWrong : ChangeSpec := { name := "fnExactBestCosts", fn := fun _ => fun
  | [d] => { results := [.lit (.bool false)], args := [d] }
  | _ => none }
def FnExactBestCostsWrongFalsely : Prop := fnExactBestCostsRow.holds Try.pinned (OpenSpec.ofChange fnExactBestCostsWrong)

/-- 'laws.FnBestTree': WHATEVER THE INPUT: true; the input reads as it did. -/
def fnBestTreeSpec : ChangeSpec := { name := "fnBestTree", fn := fun _ => fun
  | [d] => { results := [.lit (.bool true)], args := [d] }
  | _ => none }
def fnBestTreeRow : OpenClaim := { program := "ytgbapklfgjnggaa", sum := "d8f10782d82f31e30017fb381fb703dac7ce711179d5ae8d943f92ac58ed13f8", func := "loop.example/queryoptimizer/laws.FnBestTree", spec := "fnBestTree", unfollowed := true, recurses := true, apart := false }
def FnBestTreeSaid : Prop := fnBestTreeRow.holds Try.pinned (OpenSpec.ofChange fnBestTreeSpec)

/-- ITS FALSE NEIGHBOUR: 'it returns false'. Refute it at one input. -/
def fnBestTreeWrong : ChangeSpec := { name := "fnBestTree", fn := fun _ => fun
  | [d] => { results := [.lit (.bool false)], args := [d] }
  | _ => none }
def FnBestTreeWrongFalsely : Prop := fnBestTreeRow.holds Try.pinned (OpenSpec.ofChange fnBestTreeWrong)

/-- 'laws.FnExactTreeCost': WHATEVER THE INPUT: true; the input reads as it did. -/
def fnExactTreeCostSpec : ChangeSpec := { name := "fnExactTreeCost", fn := fun _ => fun
  | [d1, d2] => { results := [.lit (.bool true)], args := [d1, d2] }
  | _ => none }
def fnExactTreeCostRow : OpenClaim := { program := "ytgbapklfgjnggaa", sum := "d8f10782d82f31e30017fb381fb703dac7ce711179d5ae8d943f92ac58ed13f8", func := "loop.example/queryoptimizer/laws.FnExactTreeCost", spec := "fnExactTreeCost", recurses := true, loops := true, apart := false }
def FnExactTreeCostSaid : Prop := fnExactTreeCostRow.holds Try.pinned (OpenSpec.ofChange fnExactTreeCostSpec)

/-- ITS FALSE NEIGHBOUR: 'it returns false'. Refute it at one input. -/
def fnExactTreeCostWrong : ChangeSpec := { name := "fnExactTreeCost", fn := fun _ => fun
  | [d1, d2] => { results := [.lit (.bool false)], args := [d1, d2] }
  | _ => none }
def FnExactTreeCostWrongFalsely : Prop := fnExactTreeCostRow.holds Try.pinned (OpenSpec.ofChange fnExactTreeCostWrong)

/-- 'laws.FnExactBestTree': WHATEVER THE INPUT: true; the input reads as it did. -/
def fnExactBestTreeSpec : ChangeSpec := { name := "fnExactBestTree", fn := fun _ => fun
  | [d] => { results := [.lit (.bool true)], args := [d] }
  | _ => none }
def fnExactBestTreeRow : OpenClaim := { program := "ytgbapklfgjnggaa", sum := "d8f10782d82f31e30017fb381fb703dac7ce711179d5ae8d943f92ac58ed13f8", func := "loop.example/queryoptimizer/laws.FnExactBestTree", spec := "fnExactBestTree", unfollowed := true, recurses := true, apart := false }
def FnExactBestTreeSaid : Prop := fnExactBestTreeRow.holds Try.pinned (OpenSpec.ofChange fnExactBestTreeSpec)

/-- ITS FALSE NEIGHBOUR: 'it returns false'. Refute it at one input. -/
def fnExactBestTreeWrong : ChangeSpec := { name := "fnExactBestTree", fn := fun _ => fun
  | [d] => { results := [.lit (.bool false)], args := [d] }
  | _ => none }
def FnExactBestTreeWrongFalsely : Prop := fnExactBestTreeRow.holds Try.pinned (OpenSpec.ofChange fnExactBestTreeWrong)

/-- 'laws.FnExactGreedyTree': WHATEVER THE INPUT: true; the input reads as it did. -/
def fnExactGreedyTreeSpec : ChangeSpec := { name := "fnExactGreedyTree", fn := fun _ => fun
  | [d] => { results := [.lit (.bool true)], args := [d] }
  | _ => none }
def fnExactGreedyTreeRow : OpenClaim := { program := "ytgbapklfgjnggaa", sum := "d8f10782d82f31e30017fb381fb703dac7ce711179d5ae8d943f92ac58ed13f8", func := "loop.example/queryoptimizer/laws.FnExactGreedyTree", spec := "fnExactGreedyTree", recurses := true, apart := false }
def FnExactGreedyTreeSaid : Prop := fnExactGreedyTreeRow.holds Try.pinned (OpenSpec.ofChange fnExactGreedyTreeSpec)

/-- ITS FALSE NEIGHBOUR: 'it returns false'. Refute it at one input. -/
def fnExactGreedyTreeWrong : ChangeSpec := { name := "fnExactGreedyTree", fn := fun _ => fun
  | [d] => { results := [.lit (.bool false)], args := [d] }
  | _ => none }
def FnExactGreedyTreeWrongFalsely : Prop := fnExactGreedyTreeRow.holds Try.pinned (OpenSpec.ofChange fnExactGreedyTreeWrong)

/-- 'laws.FnGreedyTree': WHATEVER THE INPUT: true; the input reads as it did. -/
def fnGreedyTreeSpec : ChangeSpec := { name := "fnGreedyTree", fn := fun _ => fun
  | [d] => { results := [.lit (.bool true)], args := [d] }
  | _ => none }
def fnGreedyTreeRow : OpenClaim := { program := "ytgbapklfgjnggaa", sum := "d8f10782d82f31e30017fb381fb703dac7ce711179d5ae8d943f92ac58ed13f8", func := "loop.example/queryoptimizer/laws.FnGreedyTree", spec := "fnGreedyTree", unfollowed := true, recurses := true, apart := false }
def FnGreedyTreeSaid : Prop := fnGreedyTreeRow.holds Try.pinned (OpenSpec.ofChange fnGreedyTreeSpec)

/-- ITS FALSE NEIGHBOUR: 'it returns false'. Refute it at one input. -/
def fnGreedyTreeWrong : ChangeSpec := { name := "fnGreedyTree", fn := fun _ => fun
  | [d] => { results := [.lit (.bool false)], args := [d] }
  | _ => none }
def FnGreedyTreeWrongFalsely : Prop := fnGreedyTreeRow.holds Try.pinned (OpenSpec.ofChange fnGreedyTreeWrong)

/-- 'laws.FnBestOfTrees': WHATEVER THE INPUT: true; the input reads as it did. -/
def fnBestOfTreesSpec : ChangeSpec := { name := "fnBestOfTrees", fn := fun _ => fun
  | [d] => { results := [.lit (.bool true)], args := [d] }
  | _ => none }
def fnBestOfTreesRow : OpenClaim := { program := "ytgbapklfgjnggaa", sum := "d8f10782d82f31e30017fb381fb703dac7ce711179d5ae8d943f92ac58ed13f8", func := "loop.example/queryoptimizer/laws.FnBestOfTrees", spec := "fnBestOfTrees", unfollowed := true, recurses := true, apart := false }
def FnBestOfTreesSaid : Prop := fnBestOfTreesRow.holds Try.pinned (OpenSpec.ofChange fnBestOfTreesSpec)

/-- ITS FALSE NEIGHBOUR: 'it returns false'. Refute it at one input. -/
def fnBestOfTreesWrong : ChangeSpec := { name := "fnBestOfTrees", fn := fun _ => fun
  | [d] => { results := [.lit (.bool false)], args := [d] }
  | _ => none }
def FnBestOfTreesWrongFalsely : Prop := fnBestOfTreesRow.holds Try.pinned (OpenSpec.ofChange fnBestOfTreesWrong)

/- THE SECOND FORM. 'bulk': how many values and letters a reading holds, each counted each time it is reached (what is shared counts as often as it is met; a slice's spare places count too). A statement '..UptoSaid' is the law's where the arguments, and the package variables that the reading takes, are together of bulk at most 1048576: NARROWER than '..Said'. Prove '..Said' where nothing that the law and all that it calls make is longer than what came in: it says more and counts as full. Else prove '..UptoSaid'. A law counts once. -/
mutual
def uptoBulk {H : Type} : DataW H → Nat
  | .lit (.string bytes) => bytes.length + 1
  | .lit _ => 1
  | .nil => 1
  | .ptr d => uptoBulk d + 1
  | .slice elems spare => uptoBulkAll elems + uptoBulkAll spare + 1
  | .agg parts => uptoBulkAll parts + 1
  | .iface _ d => uptoBulk d + 1
  | .map entries => uptoBulkEntries entries + 1
  | .held _ => 1
def uptoBulkAll {H : Type} : List (DataW H) → Nat
  | [] => 0
  | d :: r => uptoBulk d + uptoBulkAll r
def uptoBulkEntries {H : Type} : List (Lit × DataW H) → Nat
  | [] => 0
  | x :: r => uptoBulkEntry x + uptoBulkEntries r
def uptoBulkEntry {H : Type} : Lit × DataW H → Nat
  | (.string bytes, d) => bytes.length + uptoBulk d + 1
  | (_, d) => uptoBulk d + 1
 end
def uptoSmall : (H : Type) → List (DataW H) → Bool := fun _ ds => decide (uptoBulkAll ds ≤ 1048576)
def OpenSpec.upto (s : _root_.Go.ChangeSpec) : _root_.Go.OpenSpec := { _root_.Go.OpenSpec.ofChange s with cond := some uptoSmall }

/-- 'laws.FnSubsetSize', WHERE WHAT IT READS IS OF BULK AT MOST 1048576: true; the input reads as it did. -/
def fnSubsetSizeUptoRow : OpenClaim := { program := "ytgbapklfgjnggaa", sum := "d8f10782d82f31e30017fb381fb703dac7ce711179d5ae8d943f92ac58ed13f8", func := "loop.example/queryoptimizer/laws.FnSubsetSize", spec := "fnSubsetSize", apart := false, narrowed := true }
def FnSubsetSizeUptoSaid : Prop := fnSubsetSizeUptoRow.holds Try.pinned (OpenSpec.upto fnSubsetSizeSpec)

/-- 'laws.FnExactSubsetSize', WHERE WHAT IT READS IS OF BULK AT MOST 1048576: true; the input reads as it did. -/
def fnExactSubsetSizeUptoRow : OpenClaim := { program := "ytgbapklfgjnggaa", sum := "d8f10782d82f31e30017fb381fb703dac7ce711179d5ae8d943f92ac58ed13f8", func := "loop.example/queryoptimizer/laws.FnExactSubsetSize", spec := "fnExactSubsetSize", apart := false, narrowed := true }
def FnExactSubsetSizeUptoSaid : Prop := fnExactSubsetSizeUptoRow.holds Try.pinned (OpenSpec.upto fnExactSubsetSizeSpec)

/-- 'laws.FnBestCosts', WHERE WHAT IT READS IS OF BULK AT MOST 1048576: true; the input reads as it did. -/
def fnBestCostsUptoRow : OpenClaim := { program := "ytgbapklfgjnggaa", sum := "d8f10782d82f31e30017fb381fb703dac7ce711179d5ae8d943f92ac58ed13f8", func := "loop.example/queryoptimizer/laws.FnBestCosts", spec := "fnBestCosts", unfollowed := true, recurses := true, apart := false, narrowed := true }
def FnBestCostsUptoSaid : Prop := fnBestCostsUptoRow.holds Try.pinned (OpenSpec.upto fnBestCostsSpec)

/-- 'laws.FnExactCheckCosts', WHERE WHAT IT READS IS OF BULK AT MOST 1048576: true; the input reads as it did. -/
def fnExactCheckCostsUptoRow : OpenClaim := { program := "ytgbapklfgjnggaa", sum := "d8f10782d82f31e30017fb381fb703dac7ce711179d5ae8d943f92ac58ed13f8", func := "loop.example/queryoptimizer/laws.FnExactCheckCosts", spec := "fnExactCheckCosts", unfollowed := true, recurses := true, apart := false, narrowed := true }
def FnExactCheckCostsUptoSaid : Prop := fnExactCheckCostsUptoRow.holds Try.pinned (OpenSpec.upto fnExactCheckCostsSpec)

/-- 'laws.FnTreeCost', WHERE WHAT IT READS IS OF BULK AT MOST 1048576: true; the input reads as it did. -/
def fnTreeCostUptoRow : OpenClaim := { program := "ytgbapklfgjnggaa", sum := "d8f10782d82f31e30017fb381fb703dac7ce711179d5ae8d943f92ac58ed13f8", func := "loop.example/queryoptimizer/laws.FnTreeCost", spec := "fnTreeCost", recurses := true, apart := false, narrowed := true }
def FnTreeCostUptoSaid : Prop := fnTreeCostUptoRow.holds Try.pinned (OpenSpec.upto fnTreeCostSpec)

/-- 'laws.FnExactBestCosts', WHERE WHAT IT READS IS OF BULK AT MOST 1048576: true; the input reads as it did. -/
def fnExactBestCostsUptoRow : OpenClaim := { program := "ytgbapklfgjnggaa", sum := "d8f10782d82f31e30017fb381fb703dac7ce711179d5ae8d943f92ac58ed13f8", func := "loop.example/queryoptimizer/laws.FnExactBestCosts", spec := "fnExactBestCosts", unfollowed := true, recurses := true, apart := false, narrowed := true }
def FnExactBestCostsUptoSaid : Prop := fnExactBestCostsUptoRow.holds Try.pinned (OpenSpec.upto fnExactBestCostsSpec)

/-- 'laws.FnBestTree', WHERE WHAT IT READS IS OF BULK AT MOST 1048576: true; the input reads as it did. -/
def fnBestTreeUptoRow : OpenClaim := { program := "ytgbapklfgjnggaa", sum := "d8f10782d82f31e30017fb381fb703dac7ce711179d5ae8d943f92ac58ed13f8", func := "loop.example/queryoptimizer/laws.FnBestTree", spec := "fnBestTree", unfollowed := true, recurses := true, apart := false, narrowed := true }
def FnBestTreeUptoSaid : Prop := fnBestTreeUptoRow.holds Try.pinned (OpenSpec.upto fnBestTreeSpec)

/-- 'laws.FnExactTreeCost', WHERE WHAT IT READS IS OF BULK AT MOST 1048576: true; the input reads as it did. -/
def fnExactTreeCostUptoRow : OpenClaim := { program := "ytgbapklfgjnggaa", sum := "d8f10782d82f31e30017fb381fb703dac7ce711179d5ae8d943f92ac58ed13f8", func := "loop.example/queryoptimizer/laws.FnExactTreeCost", spec := "fnExactTreeCost", recurses := true, loops := true, apart := false, narrowed := true }
def FnExactTreeCostUptoSaid : Prop := fnExactTreeCostUptoRow.holds Try.pinned (OpenSpec.upto fnExactTreeCostSpec)

/-- 'laws.FnExactBestTree', WHERE WHAT IT READS IS OF BULK AT MOST 1048576: true; the input reads as it did. -/
def fnExactBestTreeUptoRow : OpenClaim := { program := "ytgbapklfgjnggaa", sum := "d8f10782d82f31e30017fb381fb703dac7ce711179d5ae8d943f92ac58ed13f8", func := "loop.example/queryoptimizer/laws.FnExactBestTree", spec := "fnExactBestTree", unfollowed := true, recurses := true, apart := false, narrowed := true }
def FnExactBestTreeUptoSaid : Prop := fnExactBestTreeUptoRow.holds Try.pinned (OpenSpec.upto fnExactBestTreeSpec)

/-- 'laws.FnExactGreedyTree', WHERE WHAT IT READS IS OF BULK AT MOST 1048576: true; the input reads as it did. -/
def fnExactGreedyTreeUptoRow : OpenClaim := { program := "ytgbapklfgjnggaa", sum := "d8f10782d82f31e30017fb381fb703dac7ce711179d5ae8d943f92ac58ed13f8", func := "loop.example/queryoptimizer/laws.FnExactGreedyTree", spec := "fnExactGreedyTree", recurses := true, apart := false, narrowed := true }
def FnExactGreedyTreeUptoSaid : Prop := fnExactGreedyTreeUptoRow.holds Try.pinned (OpenSpec.upto fnExactGreedyTreeSpec)

/-- 'laws.FnGreedyTree', WHERE WHAT IT READS IS OF BULK AT MOST 1048576: true; the input reads as it did. -/
def fnGreedyTreeUptoRow : OpenClaim := { program := "ytgbapklfgjnggaa", sum := "d8f10782d82f31e30017fb381fb703dac7ce711179d5ae8d943f92ac58ed13f8", func := "loop.example/queryoptimizer/laws.FnGreedyTree", spec := "fnGreedyTree", unfollowed := true, recurses := true, apart := false, narrowed := true }
def FnGreedyTreeUptoSaid : Prop := fnGreedyTreeUptoRow.holds Try.pinned (OpenSpec.upto fnGreedyTreeSpec)

/-- 'laws.FnBestOfTrees', WHERE WHAT IT READS IS OF BULK AT MOST 1048576: true; the input reads as it did. -/
def fnBestOfTreesUptoRow : OpenClaim := { program := "ytgbapklfgjnggaa", sum := "d8f10782d82f31e30017fb381fb703dac7ce711179d5ae8d943f92ac58ed13f8", func := "loop.example/queryoptimizer/laws.FnBestOfTrees", spec := "fnBestOfTrees", unfollowed := true, recurses := true, apart := false, narrowed := true }
def FnBestOfTreesUptoSaid : Prop := fnBestOfTreesUptoRow.holds Try.pinned (OpenSpec.upto fnBestOfTreesSpec)

end Rows
end Go.Proofs.Ytgbapklfgjnggaa
