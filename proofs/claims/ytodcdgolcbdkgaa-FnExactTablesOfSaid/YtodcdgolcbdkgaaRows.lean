/-
  NARROWER THAN 'FOR EVERY INPUT', by the rows' own cells (each row's printed sentence says how): FnExactEstimateCost: loops · FnExactCheapestPlan: loops · FnExactNullableColumns: loops · FnExactEstimateRows: loops · FnExactTablesOf: loops · FnExactIsDuplicateFree: loops · FnExactRowBound: loops · FnExactPlanSize: loops · FnExactPlanWidth: loops · FnExactFoldExpr: loops · FnExactOutcomes: loops · FnExactRejectsNulls: loops.
  DERIVED. THE GIVEN ROWS OF THIS SEAT. 12 by the template 'for every input the law returns true; each argument reads behind the call as it read before'; 0 by the template 'total and deterministic' (their statements: YtodcdgolcbdkgaaTotals.lean).
  GIVEN WITH THE SEED: the statements are not yours to turn. If you find one false, say at which input.
  Laid BY PROGRAM, IN A SANDBOX (cutbox-rows.mjs): the forced cells as the released guide's own fill.sh prints them over the translation 3fdcc3a8cc6a5388… (all of the seat's roots in one cut). By AI agents, Wed Nov 11 2026. No macro, syntax, notation, axiom, sorry.
-/
import Derived.Test.YtodcdgolcbdkgaaChecked
import GoSem.Claim
import GoSem.ClaimJoined
import GoSem.ClaimMapViews
import Derived.JoinedTies
import Derived.KernelRfl
namespace Go.Proofs.Ytodcdgolcbdkgaa
/- THE CELL 'sum', in the pinned program and in every row, IS THE sha256 OF THE DUMP (.gsa) THAT YtodcdgolcbdkgaaProg.lean LOADS. Nothing in Lean hashes anything: it is a label: what it is worth is what the hold of that sum in a sandbox is worth. -/
noncomputable def Try.pinned : Pinned := { name := "ytodcdgolcbdkgaa", sum := "3fdcc3a8cc6a5388844e3c834006739cc6353b51308373424a51899c27851379", checked := Try.checked }
namespace Rows
def none {H : Type} : Left H := { results := [], args := [] }

/-- 'laws.FnExactEstimateCost': WHATEVER THE INPUT: true; the input reads as it did. -/
def fnExactEstimateCostSpec : ChangeSpec := { name := "fnExactEstimateCost", fn := fun _ => fun
  | [d1, d2] => { results := [.lit (.bool true)], args := [d1, d2] }
  | _ => none }
def fnExactEstimateCostRow : OpenClaim := { program := "ytodcdgolcbdkgaa", sum := "3fdcc3a8cc6a5388844e3c834006739cc6353b51308373424a51899c27851379", func := "loop.example/queryoptimizer/laws.FnExactEstimateCost", spec := "fnExactEstimateCost", recurses := true, loops := true, apart := false }
def FnExactEstimateCostSaid : Prop := fnExactEstimateCostRow.holds Try.pinned (OpenSpec.ofChange fnExactEstimateCostSpec)

/-- ITS FALSE NEIGHBOUR: 'it returns false'. Refute it at one input. -/
def fnExactEstimateCostWrong : ChangeSpec := { name := "fnExactEstimateCost", fn := fun _ => fun
  | [d1, d2] => { results := [.lit (.bool false)], args := [d1, d2] }
  | _ => none }
def FnExactEstimateCostWrongFalsely : Prop := fnExactEstimateCostRow.holds Try.pinned (OpenSpec.ofChange fnExactEstimateCostWrong)

/-- 'laws.FnExactCheapestPlan': WHATEVER THE INPUT: true; the input reads as it did. -/
def fnExactCheapestPlanSpec : ChangeSpec := { name := "fnExactCheapestPlan", fn := fun _ => fun
  | [d1, d2] => { results := [.lit (.bool true)], args := [d1, d2] }
  | _ => none }
def fnExactCheapestPlanRow : OpenClaim := { program := "ytodcdgolcbdkgaa", sum := "3fdcc3a8cc6a5388844e3c834006739cc6353b51308373424a51899c27851379", func := "loop.example/queryoptimizer/laws.FnExactCheapestPlan", spec := "fnExactCheapestPlan", recurses := true, loops := true, apart := false }
def FnExactCheapestPlanSaid : Prop := fnExactCheapestPlanRow.holds Try.pinned (OpenSpec.ofChange fnExactCheapestPlanSpec)

/-- ITS FALSE NEIGHBOUR: 'it returns false'. Refute it at one input. -/
def fnExactCheapestPlanWrong : ChangeSpec := { name := "fnExactCheapestPlan", fn := fun _ => fun
  | [d1, d2] => { results := [.lit (.bool false)], args := [d1, d2] }
  | _ => none }
def FnExactCheapestPlanWrongFalsely : Prop := fnExactCheapestPlanRow.holds Try.pinned (OpenSpec.ofChange fnExactCheapestPlanWrong)

/-- 'laws.FnExactNullableColumns': WHATEVER THE INPUT: true; the input reads as it did. -/
def fnExactNullableColumnsSpec : ChangeSpec := { name := "fnExactNullableColumns", fn := fun _ => fun
  | [d1, d2, d3] => { results := [.lit (.bool true)], args := [d1, d2, d3] }
  | _ => none }
def fnExactNullableColumnsRow : OpenClaim := { program := "ytodcdgolcbdkgaa", sum := "3fdcc3a8cc6a5388844e3c834006739cc6353b51308373424a51899c27851379", func := "loop.example/queryoptimizer/laws.FnExactNullableColumns", spec := "fnExactNullableColumns", recurses := true, loops := true, apart := false }
def FnExactNullableColumnsSaid : Prop := fnExactNullableColumnsRow.holds Try.pinned (OpenSpec.ofChange fnExactNullableColumnsSpec)

/-- ITS FALSE NEIGHBOUR: 'it returns false'. Refute it at one input. -/
def fnExactNullableColumnsWrong : ChangeSpec := { name := "fnExactNullableColumns", fn := fun _ => fun
  | [d1, d2, d3] => { results := [.lit (.bool false)], args := [d1, d2, d3] }
  | _ => none }
def FnExactNullableColumnsWrongFalsely : Prop := fnExactNullableColumnsRow.holds Try.pinned (OpenSpec.ofChange fnExactNullableColumnsWrong)

/-- 'laws.FnExactEstimateRows': WHATEVER THE INPUT: true; the input reads as it did. -/
def fnExactEstimateRowsSpec : ChangeSpec := { name := "fnExactEstimateRows", fn := fun _ => fun
  | [d1, d2] => { results := [.lit (.bool true)], args := [d1, d2] }
  | _ => none }
def fnExactEstimateRowsRow : OpenClaim := { program := "ytodcdgolcbdkgaa", sum := "3fdcc3a8cc6a5388844e3c834006739cc6353b51308373424a51899c27851379", func := "loop.example/queryoptimizer/laws.FnExactEstimateRows", spec := "fnExactEstimateRows", recurses := true, loops := true, apart := false }
def FnExactEstimateRowsSaid : Prop := fnExactEstimateRowsRow.holds Try.pinned (OpenSpec.ofChange fnExactEstimateRowsSpec)

/-- ITS FALSE NEIGHBOUR: 'it returns false'. Refute it at one input. -/
def fnExactEstimateRowsWrong : ChangeSpec := { name := "fnExactEstimateRows", fn := fun _ => fun
  | [d1, d2] => { results := [.lit (.bool false)], args := [d1, d2] }
  | _ => none }
def FnExactEstimateRowsWrongFalsely : Prop := fnExactEstimateRowsRow.holds Try.pinned (OpenSpec.ofChange fnExactEstimateRowsWrong)

/-- 'laws.FnExactTablesOf': WHATEVER THE INPUT: true; the input reads as it did. -/
def fnExactTablesOfSpec : ChangeSpec := { name := "fnExactTablesOf", fn := fun _ => fun
  | [d1, d2] => { results := [.lit (.bool true)], args := [d1, d2] }
  | _ => none }
def fnExactTablesOfRow : OpenClaim := { program := "ytodcdgolcbdkgaa", sum := "3fdcc3a8cc6a5388844e3c834006739cc6353b51308373424a51899c27851379", func := "loop.example/queryoptimizer/laws.FnExactTablesOf", spec := "fnExactTablesOf", unfollowed := true, recurses := true, loops := true, apart := false }
def FnExactTablesOfSaid : Prop := fnExactTablesOfRow.holds Try.pinned (OpenSpec.ofChange fnExactTablesOfSpec)

/-- ITS FALSE NEIGHBOUR: 'it returns false'. Refute it at one input. -/
def fnExactTablesOfWrong : ChangeSpec := { name := "fnExactTablesOf", fn := fun _ => fun
  | [d1, d2] => { results := [.lit (.bool false)], args := [d1, d2] }
  | _ => none }
def FnExactTablesOfWrongFalsely : Prop := fnExactTablesOfRow.holds Try.pinned (OpenSpec.ofChange fnExactTablesOfWrong)

/-- 'laws.FnExactIsDuplicateFree': WHATEVER THE INPUT: true; the input reads as it did. -/
def fnExactIsDuplicateFreeSpec : ChangeSpec := { name := "fnExactIsDuplicateFree", fn := fun _ => fun
  | [d1, d2, d3] => { results := [.lit (.bool true)], args := [d1, d2, d3] }
  | _ => none }
def fnExactIsDuplicateFreeRow : OpenClaim := { program := "ytodcdgolcbdkgaa", sum := "3fdcc3a8cc6a5388844e3c834006739cc6353b51308373424a51899c27851379", func := "loop.example/queryoptimizer/laws.FnExactIsDuplicateFree", spec := "fnExactIsDuplicateFree", recurses := true, loops := true, apart := false }
def FnExactIsDuplicateFreeSaid : Prop := fnExactIsDuplicateFreeRow.holds Try.pinned (OpenSpec.ofChange fnExactIsDuplicateFreeSpec)

/-- ITS FALSE NEIGHBOUR: 'it returns false'. Refute it at one input. -/
def fnExactIsDuplicateFreeWrong : ChangeSpec := { name := "fnExactIsDuplicateFree", fn := fun _ => fun
  | [d1, d2, d3] => { results := [.lit (.bool false)], args := [d1, d2, d3] }
  | _ => none }
def FnExactIsDuplicateFreeWrongFalsely : Prop := fnExactIsDuplicateFreeRow.holds Try.pinned (OpenSpec.ofChange fnExactIsDuplicateFreeWrong)

/-- 'laws.FnExactRowBound': WHATEVER THE INPUT: true; the input reads as it did. -/
def fnExactRowBoundSpec : ChangeSpec := { name := "fnExactRowBound", fn := fun _ => fun
  | [d1, d2, d3] => { results := [.lit (.bool true)], args := [d1, d2, d3] }
  | _ => none }
def fnExactRowBoundRow : OpenClaim := { program := "ytodcdgolcbdkgaa", sum := "3fdcc3a8cc6a5388844e3c834006739cc6353b51308373424a51899c27851379", func := "loop.example/queryoptimizer/laws.FnExactRowBound", spec := "fnExactRowBound", recurses := true, loops := true, apart := false }
def FnExactRowBoundSaid : Prop := fnExactRowBoundRow.holds Try.pinned (OpenSpec.ofChange fnExactRowBoundSpec)

/-- ITS FALSE NEIGHBOUR: 'it returns false'. Refute it at one input. -/
def fnExactRowBoundWrong : ChangeSpec := { name := "fnExactRowBound", fn := fun _ => fun
  | [d1, d2, d3] => { results := [.lit (.bool false)], args := [d1, d2, d3] }
  | _ => none }
def FnExactRowBoundWrongFalsely : Prop := fnExactRowBoundRow.holds Try.pinned (OpenSpec.ofChange fnExactRowBoundWrong)

/-- 'laws.FnExactPlanSize': WHATEVER THE INPUT: true; the input reads as it did. -/
def fnExactPlanSizeSpec : ChangeSpec := { name := "fnExactPlanSize", fn := fun _ => fun
  | [d1, d2] => { results := [.lit (.bool true)], args := [d1, d2] }
  | _ => none }
def fnExactPlanSizeRow : OpenClaim := { program := "ytodcdgolcbdkgaa", sum := "3fdcc3a8cc6a5388844e3c834006739cc6353b51308373424a51899c27851379", func := "loop.example/queryoptimizer/laws.FnExactPlanSize", spec := "fnExactPlanSize", unfollowed := true, recurses := true, loops := true, apart := false }
def FnExactPlanSizeSaid : Prop := fnExactPlanSizeRow.holds Try.pinned (OpenSpec.ofChange fnExactPlanSizeSpec)

/-- ITS FALSE NEIGHBOUR: 'it returns false'. Refute it at one input. -/
def fnExactPlanSizeWrong : ChangeSpec := { name := "fnExactPlanSize", fn := fun _ => fun
  | [d1, d2] => { results := [.lit (.bool false)], args := [d1, d2] }
  | _ => none }
def FnExactPlanSizeWrongFalsely : Prop := fnExactPlanSizeRow.holds Try.pinned (OpenSpec.ofChange fnExactPlanSizeWrong)

/-- 'laws.FnExactPlanWidth': WHATEVER THE INPUT: true; the input reads as it did. -/
def fnExactPlanWidthSpec : ChangeSpec := { name := "fnExactPlanWidth", fn := fun _ => fun
  | [d1, d2] => { results := [.lit (.bool true)], args := [d1, d2] }
  | _ => none }
def fnExactPlanWidthRow : OpenClaim := { program := "ytodcdgolcbdkgaa", sum := "3fdcc3a8cc6a5388844e3c834006739cc6353b51308373424a51899c27851379", func := "loop.example/queryoptimizer/laws.FnExactPlanWidth", spec := "fnExactPlanWidth", recurses := true, loops := true, apart := false }
def FnExactPlanWidthSaid : Prop := fnExactPlanWidthRow.holds Try.pinned (OpenSpec.ofChange fnExactPlanWidthSpec)

/-- ITS FALSE NEIGHBOUR: 'it returns false'. Refute it at one input. -/
def fnExactPlanWidthWrong : ChangeSpec := { name := "fnExactPlanWidth", fn := fun _ => fun
  | [d1, d2] => { results := [.lit (.bool false)], args := [d1, d2] }
  | _ => none }
def FnExactPlanWidthWrongFalsely : Prop := fnExactPlanWidthRow.holds Try.pinned (OpenSpec.ofChange fnExactPlanWidthWrong)

/-- 'laws.FnExactFoldExpr': WHATEVER THE INPUT: true; the input reads as it did. -/
def fnExactFoldExprSpec : ChangeSpec := { name := "fnExactFoldExpr", fn := fun _ => fun
  | [d] => { results := [.lit (.bool true)], args := [d] }
  | _ => none }
def fnExactFoldExprRow : OpenClaim := { program := "ytodcdgolcbdkgaa", sum := "3fdcc3a8cc6a5388844e3c834006739cc6353b51308373424a51899c27851379", func := "loop.example/queryoptimizer/laws.FnExactFoldExpr", spec := "fnExactFoldExpr", recurses := true, loops := true, apart := false }
def FnExactFoldExprSaid : Prop := fnExactFoldExprRow.holds Try.pinned (OpenSpec.ofChange fnExactFoldExprSpec)

/-- ITS FALSE NEIGHBOUR: 'it returns false'. Refute it at one input. -/
def fnExactFoldExprWrong : ChangeSpec := { name := "fnExactFoldExpr", fn := fun _ => fun
  | [d] => { results := [.lit (.bool false)], args := [d] }
  | _ => none }
def FnExactFoldExprWrongFalsely : Prop := fnExactFoldExprRow.holds Try.pinned (OpenSpec.ofChange fnExactFoldExprWrong)

/-- 'laws.FnExactOutcomes': WHATEVER THE INPUT: true; the input reads as it did. -/
def fnExactOutcomesSpec : ChangeSpec := { name := "fnExactOutcomes", fn := fun _ => fun
  | [d1, d2] => { results := [.lit (.bool true)], args := [d1, d2] }
  | _ => none }
def fnExactOutcomesRow : OpenClaim := { program := "ytodcdgolcbdkgaa", sum := "3fdcc3a8cc6a5388844e3c834006739cc6353b51308373424a51899c27851379", func := "loop.example/queryoptimizer/laws.FnExactOutcomes", spec := "fnExactOutcomes", recurses := true, loops := true, apart := false }
def FnExactOutcomesSaid : Prop := fnExactOutcomesRow.holds Try.pinned (OpenSpec.ofChange fnExactOutcomesSpec)

/-- ITS FALSE NEIGHBOUR: 'it returns false'. Refute it at one input. -/
def fnExactOutcomesWrong : ChangeSpec := { name := "fnExactOutcomes", fn := fun _ => fun
  | [d1, d2] => { results := [.lit (.bool false)], args := [d1, d2] }
  | _ => none }
def FnExactOutcomesWrongFalsely : Prop := fnExactOutcomesRow.holds Try.pinned (OpenSpec.ofChange fnExactOutcomesWrong)

/-- 'laws.FnExactRejectsNulls': WHATEVER THE INPUT: true; the input reads as it did. -/
def fnExactRejectsNullsSpec : ChangeSpec := { name := "fnExactRejectsNulls", fn := fun _ => fun
  | [d1, d2, d3] => { results := [.lit (.bool true)], args := [d1, d2, d3] }
  | _ => none }
def fnExactRejectsNullsRow : OpenClaim := { program := "ytodcdgolcbdkgaa", sum := "3fdcc3a8cc6a5388844e3c834006739cc6353b51308373424a51899c27851379", func := "loop.example/queryoptimizer/laws.FnExactRejectsNulls", spec := "fnExactRejectsNulls", recurses := true, loops := true, apart := false }
def FnExactRejectsNullsSaid : Prop := fnExactRejectsNullsRow.holds Try.pinned (OpenSpec.ofChange fnExactRejectsNullsSpec)

/-- ITS FALSE NEIGHBOUR: 'it returns false'. Refute it at one input. -/
def fnExactRejectsNullsWrong : ChangeSpec := { name := "fnExactRejectsNulls", fn := fun _ => fun
  | [d1, d2, d3] => { results := [.lit (.bool false)], args := [d1, d2, d3] }
  | _ => none }
def FnExactRejectsNullsWrongFalsely : Prop := fnExactRejectsNullsRow.holds Try.pinned (OpenSpec.ofChange fnExactRejectsNullsWrong)

/- THE SECOND FORM. 'bulk': how many values and letters a reading holds, each counted each time it is reached (what is shared counts as often as it is met; a slice's spare places count too). A statement '..UptoSaid' is the law's where the arguments, and the package variables that the reading takes, are together of bulk at most 1048576: NARROWER than '..Said'. Prove '..Said' where nothing that the law and all that it calls make is longer than what came in: it says more and counts as full. Else prove '..UptoSaid'. A law counts once. -/
mutual
def uptoBulk {H : Type} : DataW H → Nat
  | .lit (.string bytes) => bytes.length + 1
  | .lit _ => 1
  | .nil => 1
  | .ptr d => uptoBulk d + 1
  | .slice elems spare => uptoBulkAll elems + uptoBulkAll spare + 1
  | .agg parts => uptoBulkAll parts + 1
  | .iface _ d => uptoBulk d + 1
  | .map entries => uptoBulkEntries entries + 1
  | .held _ => 1
def uptoBulkAll {H : Type} : List (DataW H) → Nat
  | [] => 0
  | d :: r => uptoBulk d + uptoBulkAll r
def uptoBulkEntries {H : Type} : List (Lit × DataW H) → Nat
  | [] => 0
  | x :: r => uptoBulkEntry x + uptoBulkEntries r
def uptoBulkEntry {H : Type} : Lit × DataW H → Nat
  | (.string bytes, d) => bytes.length + uptoBulk d + 1
  | (_, d) => uptoBulk d + 1
 end
def uptoSmall : (H : Type) → List (DataW H) → Bool := fun _ ds => decide (uptoBulkAll ds ≤ 1048576)
def OpenSpec.upto (s : _root_.Go.ChangeSpec) : _root_.Go.OpenSpec := { _root_.Go.OpenSpec.ofChange s with cond := some uptoSmall }

/-- 'laws.FnExactEstimateCost', WHERE WHAT IT READS IS OF BULK AT MOST 1048576: true; the input reads as it did. -/
def fnExactEstimateCostUptoRow : OpenClaim := { program := "ytodcdgolcbdkgaa", sum := "3fdcc3a8cc6a5388844e3c834006739cc6353b51308373424a51899c27851379", func := "loop.example/queryoptimizer/laws.FnExactEstimateCost", spec := "fnExactEstimateCost", recurses := true, loops := true, apart := false, narrowed := true }
def FnExactEstimateCostUptoSaid : Prop := fnExactEstimateCostUptoRow.holds Try.pinned (OpenSpec.upto fnExactEstimateCostSpec)

/-- 'laws.FnExactCheapestPlan', WHERE WHAT IT READS IS OF BULK AT MOST 1048576: true; the input reads as it did. -/
def fnExactCheapestPlanUptoRow : OpenClaim := { program := "ytodcdgolcbdkgaa", sum := "3fdcc3a8cc6a5388844e3c834006739cc6353b51308373424a51899c27851379", func := "loop.example/queryoptimizer/laws.FnExactCheapestPlan", spec := "fnExactCheapestPlan", recurses := true, loops := true, apart := false, narrowed := true }
def FnExactCheapestPlanUptoSaid : Prop := fnExactCheapestPlanUptoRow.holds Try.pinned (OpenSpec.upto fnExactCheapestPlanSpec)

/-- 'laws.FnExactNullableColumns', WHERE WHAT IT READS IS OF BULK AT MOST 1048576: true; the input reads as it did. -/
def fnExactNullableColumnsUptoRow : OpenClaim := { program := "ytodcdgolcbdkgaa", sum := "3fdcc3a8cc6a5388844e3c834006739cc6353b51308373424a51899c27851379", func := "loop.example/queryoptimizer/laws.FnExactNullableColumns", spec := "fnExactNullableColumns", recurses := true, loops := true, apart := false, narrowed := true }
def FnExactNullableColumnsUptoSaid : Prop := fnExactNullableColumnsUptoRow.holds Try.pinned (OpenSpec.upto fnExactNullableColumnsSpec)

/-- 'laws.FnExactEstimateRows', WHERE WHAT IT READS IS OF BULK AT MOST 1048576: true; the input reads as it did. -/
def fnExactEstimateRowsUptoRow : OpenClaim := { program := "ytodcdgolcbdkgaa", sum := "3fdcc3a8cc6a5388844e3c834006739cc6353b51308373424a51899c27851379", func := "loop.example/queryoptimizer/laws.FnExactEstimateRows", spec := "fnExactEstimateRows", recurses := true, loops := true, apart := false, narrowed := true }
def FnExactEstimateRowsUptoSaid : Prop := fnExactEstimateRowsUptoRow.holds Try.pinned (OpenSpec.upto fnExactEstimateRowsSpec)

/-- 'laws.FnExactTablesOf', WHERE WHAT IT READS IS OF BULK AT MOST 1048576: true; the input reads as it did. -/
def fnExactTablesOfUptoRow : OpenClaim := { program := "ytodcdgolcbdkgaa", sum := "3fdcc3a8cc6a5388844e3c834006739cc6353b51308373424a51899c27851379", func := "loop.example/queryoptimizer/laws.FnExactTablesOf", spec := "fnExactTablesOf", unfollowed := true, recurses := true, loops := true, apart := false, narrowed := true }
def FnExactTablesOfUptoSaid : Prop := fnExactTablesOfUptoRow.holds Try.pinned (OpenSpec.upto fnExactTablesOfSpec)

/-- 'laws.FnExactIsDuplicateFree', WHERE WHAT IT READS IS OF BULK AT MOST 1048576: true; the input reads as it did. -/
def fnExactIsDuplicateFreeUptoRow : OpenClaim := { program := "ytodcdgolcbdkgaa", sum := "3fdcc3a8cc6a5388844e3c834006739cc6353b51308373424a51899c27851379", func := "loop.example/queryoptimizer/laws.FnExactIsDuplicateFree", spec := "fnExactIsDuplicateFree", recurses := true, loops := true, apart := false, narrowed := true }
def FnExactIsDuplicateFreeUptoSaid : Prop := fnExactIsDuplicateFreeUptoRow.holds Try.pinned (OpenSpec.upto fnExactIsDuplicateFreeSpec)

/-- 'laws.FnExactRowBound', WHERE WHAT IT READS IS OF BULK AT MOST 1048576: true; the input reads as it did. -/
def fnExactRowBoundUptoRow : OpenClaim := { program := "ytodcdgolcbdkgaa", sum := "3fdcc3a8cc6a5388844e3c834006739cc6353b51308373424a51899c27851379", func := "loop.example/queryoptimizer/laws.FnExactRowBound", spec := "fnExactRowBound", recurses := true, loops := true, apart := false, narrowed := true }
def FnExactRowBoundUptoSaid : Prop := fnExactRowBoundUptoRow.holds Try.pinned (OpenSpec.upto fnExactRowBoundSpec)

/-- 'laws.FnExactPlanSize', WHERE WHAT IT READS IS OF BULK AT MOST 1048576: true; the input reads as it did. -/
def fnExactPlanSizeUptoRow : OpenClaim := { program := "ytodcdgolcbdkgaa", sum := "3fdcc3a8cc6a5388844e3c834006739cc6353b51308373424a51899c27851379", func := "loop.example/queryoptimizer/laws.FnExactPlanSize", spec := "fnExactPlanSize", unfollowed := true, recurses := true, loops := true, apart := false, narrowed := true }
def FnExactPlanSizeUptoSaid : Prop := fnExactPlanSizeUptoRow.holds Try.pinned (OpenSpec.upto fnExactPlanSizeSpec)

/-- 'laws.FnExactPlanWidth', WHERE WHAT IT READS IS OF BULK AT MOST 1048576: true; the input reads as it did. -/
def fnExactPlanWidthUptoRow : OpenClaim := { program := "ytodcdgolcbdkgaa", sum := "3fdcc3a8cc6a5388844e3c834006739cc6353b51308373424a51899c27851379", func := "loop.example/queryoptimizer/laws.FnExactPlanWidth", spec := "fnExactPlanWidth", recurses := true, loops := true, apart := false, narrowed := true }
def FnExactPlanWidthUptoSaid : Prop := fnExactPlanWidthUptoRow.holds Try.pinned (OpenSpec.upto fnExactPlanWidthSpec)

/-- 'laws.FnExactFoldExpr', WHERE WHAT IT READS IS OF BULK AT MOST 1048576: true; the input reads as it did. -/
def fnExactFoldExprUptoRow : OpenClaim := { program := "ytodcdgolcbdkgaa", sum := "3fdcc3a8cc6a5388844e3c834006739cc6353b51308373424a51899c27851379", func := "loop.example/queryoptimizer/laws.FnExactFoldExpr", spec := "fnExactFoldExpr", recurses := true, loops := true, apart := false, narrowed := true }
def FnExactFoldExprUptoSaid : Prop := fnExactFoldExprUptoRow.holds Try.pinned (OpenSpec.upto fnExactFoldExprSpec)

/-- 'laws.FnExactOutcomes', WHERE WHAT IT READS IS OF BULK AT MOST 1048576: true; the input reads as it did. -/
def fnExactOutcomesUptoRow : OpenClaim := { program := "ytodcdgolcbdkgaa", sum := "3fdcc3a8cc6a5388844e3c834006739cc6353b51308373424a51899c27851379", func := "loop.example/queryoptimizer/laws.FnExactOutcomes", spec := "fnExactOutcomes", recurses := true, loops := true, apart := false, narrowed := true }
def FnExactOutcomesUptoSaid : Prop := fnExactOutcomesUptoRow.holds Try.pinned (OpenSpec.upto fnExactOutcomesSpec)

/-- 'laws.FnExactRejectsNulls', WHERE WHAT IT READS IS OF BULK AT MOST 1048576: true; the input reads as it did. -/
def fnExactRejectsNullsUptoRow : OpenClaim := { program := "ytodcdgolcbdkgaa", sum := "3fdcc3a8cc6a5388844e3c834006739cc6353b51308373424a51899c27851379", func := "loop.example/queryoptimizer/laws.FnExactRejectsNulls", spec := "fnExactRejectsNulls", recurses := true, loops := true, apart := false, narrowed := true }
def FnExactRejectsNullsUptoSaid : Prop := fnExactRejectsNullsUptoRow.holds Try.pinned (OpenSpec.upto fnExactRejectsNullsSpec)

end Rows
end Go.Proofs.Ytodcdgolcbdkgaa
