/-
  No cell of these rows narrows 'for every input' (looked for: loops, veiled, ifaces, maps, wideKeys, modest, calm, conditions, laid).
  DERIVED. THE GIVEN ROWS OF THIS SEAT. 12 by the template 'for every input the law returns true; each argument reads behind the call as it read before'; 0 by the template 'total and deterministic' (their statements: YtjcjpeckfikfkaaTotals.lean).
  GIVEN WITH THE SEED: the statements are not yours to turn. If you find one false, say at which input.
  Laid BY PROGRAM, IN A SANDBOX (cutbox-rows.mjs): the forced cells as the released guide's own fill.sh prints them over the translation 4fd1d063e78ccc54… (all of the seat's roots in one cut). By AI agents, Wed Nov 11 2026. No macro, syntax, notation, axiom, sorry.
-/
import Derived.Test.YtjcjpeckfikfkaaChecked
import GoSem.Claim
import GoSem.ClaimJoined
import GoSem.ClaimMapViews
import Derived.JoinedTies
import Derived.KernelRfl
namespace Go.Proofs.Ytjcjpeckfikfkaa
/- THE CELL 'sum', in the pinned program and in every row, IS THE sha256 OF THE DUMP (.gsa) THAT YtjcjpeckfikfkaaProg.lean LOADS. Nothing in Lean hashes anything: it is a label: what it is worth is what the hold of that sum in a sandbox is worth. -/
noncomputable def Try.pinned : Pinned := { name := "ytjcjpeckfikfkaa", sum := "4fd1d063e78ccc540e8920271c18a7746d139851f5e7d47b232ef82642847906", checked := Try.checked }
namespace Rows
def none {H : Type} : Left H := { results := [], args := [] }

/-- 'laws.FnTableOf': WHATEVER THE INPUT: true; the input reads as it did. -/
def fnTableOfSpec : ChangeSpec := { name := "fnTableOf", fn := fun _ => fun
  | [d] => { results := [.lit (.bool true)], args := [d] }
  | _ => none }
def fnTableOfRow : OpenClaim := { program := "ytjcjpeckfikfkaa", sum := "4fd1d063e78ccc540e8920271c18a7746d139851f5e7d47b232ef82642847906", func := "loop.example/queryoptimizer/laws.FnTableOf", spec := "fnTableOf", unfollowed := true, recurses := true, apart := false }
def FnTableOfSaid : Prop := fnTableOfRow.holds Try.pinned (OpenSpec.ofChange fnTableOfSpec)

/-- ITS FALSE NEIGHBOUR: 'it returns false'. Refute it at one input. -/
def fnTableOfWrong : ChangeSpec := { name := "fnTableOf", fn := fun _ => fun
  | [d] => { results := [.lit (.bool false)], args := [d] }
  | _ => none }
def FnTableOfWrongFalsely : Prop := fnTableOfRow.holds Try.pinned (OpenSpec.ofChange fnTableOfWrong)

/-- 'laws.FnExactTableOf': WHATEVER THE INPUT: true; the input reads as it did. -/
def fnExactTableOfSpec : ChangeSpec := { name := "fnExactTableOf", fn := fun _ => fun
  | [d1, d2] => { results := [.lit (.bool true)], args := [d1, d2] }
  | _ => none }
def fnExactTableOfRow : OpenClaim := { program := "ytjcjpeckfikfkaa", sum := "4fd1d063e78ccc540e8920271c18a7746d139851f5e7d47b232ef82642847906", func := "loop.example/queryoptimizer/laws.FnExactTableOf", spec := "fnExactTableOf", unfollowed := true, recurses := true, apart := false }
def FnExactTableOfSaid : Prop := fnExactTableOfRow.holds Try.pinned (OpenSpec.ofChange fnExactTableOfSpec)

/-- ITS FALSE NEIGHBOUR: 'it returns false'. Refute it at one input. -/
def fnExactTableOfWrong : ChangeSpec := { name := "fnExactTableOf", fn := fun _ => fun
  | [d1, d2] => { results := [.lit (.bool false)], args := [d1, d2] }
  | _ => none }
def FnExactTableOfWrongFalsely : Prop := fnExactTableOfRow.holds Try.pinned (OpenSpec.ofChange fnExactTableOfWrong)

/-- 'laws.FnCountRow': WHATEVER THE INPUT: true; the input reads as it did. -/
def fnCountRowSpec : ChangeSpec := { name := "fnCountRow", fn := fun _ => fun
  | [d] => { results := [.lit (.bool true)], args := [d] }
  | _ => none }
def fnCountRowRow : OpenClaim := { program := "ytjcjpeckfikfkaa", sum := "4fd1d063e78ccc540e8920271c18a7746d139851f5e7d47b232ef82642847906", func := "loop.example/queryoptimizer/laws.FnCountRow", spec := "fnCountRow", unfollowed := true, recurses := true, apart := false }
def FnCountRowSaid : Prop := fnCountRowRow.holds Try.pinned (OpenSpec.ofChange fnCountRowSpec)

/-- ITS FALSE NEIGHBOUR: 'it returns false'. Refute it at one input. -/
def fnCountRowWrong : ChangeSpec := { name := "fnCountRow", fn := fun _ => fun
  | [d] => { results := [.lit (.bool false)], args := [d] }
  | _ => none }
def FnCountRowWrongFalsely : Prop := fnCountRowRow.holds Try.pinned (OpenSpec.ofChange fnCountRowWrong)

/-- 'laws.FnDistinctRows': WHATEVER THE INPUT: true; the input reads as it did. -/
def fnDistinctRowsSpec : ChangeSpec := { name := "fnDistinctRows", fn := fun _ => fun
  | [d] => { results := [.lit (.bool true)], args := [d] }
  | _ => none }
def fnDistinctRowsRow : OpenClaim := { program := "ytjcjpeckfikfkaa", sum := "4fd1d063e78ccc540e8920271c18a7746d139851f5e7d47b232ef82642847906", func := "loop.example/queryoptimizer/laws.FnDistinctRows", spec := "fnDistinctRows", unfollowed := true, recurses := true, apart := false }
def FnDistinctRowsSaid : Prop := fnDistinctRowsRow.holds Try.pinned (OpenSpec.ofChange fnDistinctRowsSpec)

/-- ITS FALSE NEIGHBOUR: 'it returns false'. Refute it at one input. -/
def fnDistinctRowsWrong : ChangeSpec := { name := "fnDistinctRows", fn := fun _ => fun
  | [d] => { results := [.lit (.bool false)], args := [d] }
  | _ => none }
def FnDistinctRowsWrongFalsely : Prop := fnDistinctRowsRow.holds Try.pinned (OpenSpec.ofChange fnDistinctRowsWrong)

/-- 'laws.FnExactDistinctRows': WHATEVER THE INPUT: true; the input reads as it did. -/
def fnExactDistinctRowsSpec : ChangeSpec := { name := "fnExactDistinctRows", fn := fun _ => fun
  | [d] => { results := [.lit (.bool true)], args := [d] }
  | _ => none }
def fnExactDistinctRowsRow : OpenClaim := { program := "ytjcjpeckfikfkaa", sum := "4fd1d063e78ccc540e8920271c18a7746d139851f5e7d47b232ef82642847906", func := "loop.example/queryoptimizer/laws.FnExactDistinctRows", spec := "fnExactDistinctRows", unfollowed := true, recurses := true, apart := false }
def FnExactDistinctRowsSaid : Prop := fnExactDistinctRowsRow.holds Try.pinned (OpenSpec.ofChange fnExactDistinctRowsSpec)

/-- ITS FALSE NEIGHBOUR: 'it returns false'. Refute it at one input. -/
def fnExactDistinctRowsWrong : ChangeSpec := { name := "fnExactDistinctRows", fn := fun _ => fun
  | [d] => { results := [.lit (.bool false)], args := [d] }
  | _ => none }
def FnExactDistinctRowsWrongFalsely : Prop := fnExactDistinctRowsRow.holds Try.pinned (OpenSpec.ofChange fnExactDistinctRowsWrong)

/-- 'laws.FnUnionAll': WHATEVER THE INPUT: true; the input reads as it did. -/
def fnUnionAllSpec : ChangeSpec := { name := "fnUnionAll", fn := fun _ => fun
  | [d] => { results := [.lit (.bool true)], args := [d] }
  | _ => none }
def fnUnionAllRow : OpenClaim := { program := "ytjcjpeckfikfkaa", sum := "4fd1d063e78ccc540e8920271c18a7746d139851f5e7d47b232ef82642847906", func := "loop.example/queryoptimizer/laws.FnUnionAll", spec := "fnUnionAll", unfollowed := true, recurses := true, apart := false }
def FnUnionAllSaid : Prop := fnUnionAllRow.holds Try.pinned (OpenSpec.ofChange fnUnionAllSpec)

/-- ITS FALSE NEIGHBOUR: 'it returns false'. Refute it at one input. -/
def fnUnionAllWrong : ChangeSpec := { name := "fnUnionAll", fn := fun _ => fun
  | [d] => { results := [.lit (.bool false)], args := [d] }
  | _ => none }
def FnUnionAllWrongFalsely : Prop := fnUnionAllRow.holds Try.pinned (OpenSpec.ofChange fnUnionAllWrong)

/-- 'laws.FnExactUnionAll': WHATEVER THE INPUT: true; the input reads as it did. -/
def fnExactUnionAllSpec : ChangeSpec := { name := "fnExactUnionAll", fn := fun _ => fun
  | [d1, d2] => { results := [.lit (.bool true)], args := [d1, d2] }
  | _ => none }
def fnExactUnionAllRow : OpenClaim := { program := "ytjcjpeckfikfkaa", sum := "4fd1d063e78ccc540e8920271c18a7746d139851f5e7d47b232ef82642847906", func := "loop.example/queryoptimizer/laws.FnExactUnionAll", spec := "fnExactUnionAll", unfollowed := true, recurses := true, apart := false }
def FnExactUnionAllSaid : Prop := fnExactUnionAllRow.holds Try.pinned (OpenSpec.ofChange fnExactUnionAllSpec)

/-- ITS FALSE NEIGHBOUR: 'it returns false'. Refute it at one input. -/
def fnExactUnionAllWrong : ChangeSpec := { name := "fnExactUnionAll", fn := fun _ => fun
  | [d1, d2] => { results := [.lit (.bool false)], args := [d1, d2] }
  | _ => none }
def FnExactUnionAllWrongFalsely : Prop := fnExactUnionAllRow.holds Try.pinned (OpenSpec.ofChange fnExactUnionAllWrong)

/-- 'laws.FnIndexOf': WHATEVER THE INPUT: true; the input reads as it did. -/
def fnIndexOfSpec : ChangeSpec := { name := "fnIndexOf", fn := fun _ => fun
  | [d] => { results := [.lit (.bool true)], args := [d] }
  | _ => none }
def fnIndexOfRow : OpenClaim := { program := "ytjcjpeckfikfkaa", sum := "4fd1d063e78ccc540e8920271c18a7746d139851f5e7d47b232ef82642847906", func := "loop.example/queryoptimizer/laws.FnIndexOf", spec := "fnIndexOf", unfollowed := true, recurses := true, apart := false }
def FnIndexOfSaid : Prop := fnIndexOfRow.holds Try.pinned (OpenSpec.ofChange fnIndexOfSpec)

/-- ITS FALSE NEIGHBOUR: 'it returns false'. Refute it at one input. -/
def fnIndexOfWrong : ChangeSpec := { name := "fnIndexOf", fn := fun _ => fun
  | [d] => { results := [.lit (.bool false)], args := [d] }
  | _ => none }
def FnIndexOfWrongFalsely : Prop := fnIndexOfRow.holds Try.pinned (OpenSpec.ofChange fnIndexOfWrong)

/-- 'laws.FnExactIndexOf': WHATEVER THE INPUT: true; the input reads as it did. -/
def fnExactIndexOfSpec : ChangeSpec := { name := "fnExactIndexOf", fn := fun _ => fun
  | [d1, d2] => { results := [.lit (.bool true)], args := [d1, d2] }
  | _ => none }
def fnExactIndexOfRow : OpenClaim := { program := "ytjcjpeckfikfkaa", sum := "4fd1d063e78ccc540e8920271c18a7746d139851f5e7d47b232ef82642847906", func := "loop.example/queryoptimizer/laws.FnExactIndexOf", spec := "fnExactIndexOf", unfollowed := true, recurses := true, apart := false }
def FnExactIndexOfSaid : Prop := fnExactIndexOfRow.holds Try.pinned (OpenSpec.ofChange fnExactIndexOfSpec)

/-- ITS FALSE NEIGHBOUR: 'it returns false'. Refute it at one input. -/
def fnExactIndexOfWrong : ChangeSpec := { name := "fnExactIndexOf", fn := fun _ => fun
  | [d1, d2] => { results := [.lit (.bool false)], args := [d1, d2] }
  | _ => none }
def FnExactIndexOfWrongFalsely : Prop := fnExactIndexOfRow.holds Try.pinned (OpenSpec.ofChange fnExactIndexOfWrong)

/-- 'laws.FnScanRange': WHATEVER THE INPUT: true; the input reads as it did. -/
def fnScanRangeSpec : ChangeSpec := { name := "fnScanRange", fn := fun _ => fun
  | [d1, d2] => { results := [.lit (.bool true)], args := [d1, d2] }
  | _ => none }
def fnScanRangeRow : OpenClaim := { program := "ytjcjpeckfikfkaa", sum := "4fd1d063e78ccc540e8920271c18a7746d139851f5e7d47b232ef82642847906", func := "loop.example/queryoptimizer/laws.FnScanRange", spec := "fnScanRange", unfollowed := true, recurses := true, apart := false }
def FnScanRangeSaid : Prop := fnScanRangeRow.holds Try.pinned (OpenSpec.ofChange fnScanRangeSpec)

/-- ITS FALSE NEIGHBOUR: 'it returns false'. Refute it at one input. -/
def fnScanRangeWrong : ChangeSpec := { name := "fnScanRange", fn := fun _ => fun
  | [d1, d2] => { results := [.lit (.bool false)], args := [d1, d2] }
  | _ => none }
def FnScanRangeWrongFalsely : Prop := fnScanRangeRow.holds Try.pinned (OpenSpec.ofChange fnScanRangeWrong)

/-- 'laws.FnExactScanRange': WHATEVER THE INPUT: true; the input reads as it did. -/
def fnExactScanRangeSpec : ChangeSpec := { name := "fnExactScanRange", fn := fun _ => fun
  | [d1, d2, d3] => { results := [.lit (.bool true)], args := [d1, d2, d3] }
  | _ => none }
def fnExactScanRangeRow : OpenClaim := { program := "ytjcjpeckfikfkaa", sum := "4fd1d063e78ccc540e8920271c18a7746d139851f5e7d47b232ef82642847906", func := "loop.example/queryoptimizer/laws.FnExactScanRange", spec := "fnExactScanRange", unfollowed := true, recurses := true, apart := false }
def FnExactScanRangeSaid : Prop := fnExactScanRangeRow.holds Try.pinned (OpenSpec.ofChange fnExactScanRangeSpec)

/-- ITS FALSE NEIGHBOUR: 'it returns false'. Refute it at one input. -/
def fnExactScanRangeWrong : ChangeSpec := { name := "fnExactScanRange", fn := fun _ => fun
  | [d1, d2, d3] => { results := [.lit (.bool false)], args := [d1, d2, d3] }
  | _ => none }
def FnExactScanRangeWrongFalsely : Prop := fnExactScanRangeRow.holds Try.pinned (OpenSpec.ofChange fnExactScanRangeWrong)

/-- 'laws.FnStatsOf': WHATEVER THE INPUT: true; the input reads as it did. -/
def fnStatsOfSpec : ChangeSpec := { name := "fnStatsOf", fn := fun _ => fun
  | [d] => { results := [.lit (.bool true)], args := [d] }
  | _ => none }
def fnStatsOfRow : OpenClaim := { program := "ytjcjpeckfikfkaa", sum := "4fd1d063e78ccc540e8920271c18a7746d139851f5e7d47b232ef82642847906", func := "loop.example/queryoptimizer/laws.FnStatsOf", spec := "fnStatsOf", unfollowed := true, recurses := true, apart := false }
def FnStatsOfSaid : Prop := fnStatsOfRow.holds Try.pinned (OpenSpec.ofChange fnStatsOfSpec)

/-- ITS FALSE NEIGHBOUR: 'it returns false'. Refute it at one input. -/
def fnStatsOfWrong : ChangeSpec := { name := "fnStatsOf", fn := fun _ => fun
  | [d] => { results := [.lit (.bool false)], args := [d] }
  | _ => none }
def FnStatsOfWrongFalsely : Prop := fnStatsOfRow.holds Try.pinned (OpenSpec.ofChange fnStatsOfWrong)

/- THE SECOND FORM. 'bulk': how many values and letters a reading holds, each counted each time it is reached (what is shared counts as often as it is met; a slice's spare places count too). A statement '..UptoSaid' is the law's where the arguments, and the package variables that the reading takes, are together of bulk at most 1048576: NARROWER than '..Said'. Prove '..Said' where nothing that the law and all that it calls make is longer than what came in: it says more and counts as full. Else prove '..UptoSaid'. A law counts once. -/
mutual
def uptoBulk {H : Type} : DataW H → Nat
  | .lit (.string bytes) => bytes.length + 1
  | .lit _ => 1
  | .nil => 1
  | .ptr d => uptoBulk d + 1
  | .slice elems spare => uptoBulkAll elems + uptoBulkAll spare + 1
  | .agg parts => uptoBulkAll parts + 1
  | .iface _ d => uptoBulk d + 1
  | .map entries => uptoBulkEntries entries + 1
  | .held _ => 1
def uptoBulkAll {H : Type} : List (DataW H) → Nat
  | [] => 0
  | d :: r => uptoBulk d + uptoBulkAll r
def uptoBulkEntries {H : Type} : List (Lit × DataW H) → Nat
  | [] => 0
  | x :: r => uptoBulkEntry x + uptoBulkEntries r
def uptoBulkEntry {H : Type} : Lit × DataW H → Nat
  | (.string bytes, d) => bytes.length + uptoBulk d + 1
  | (_, d) => uptoBulk d + 1
 end
def uptoSmall : (H : Type) → List (DataW H) → Bool := fun _ ds => decide (uptoBulkAll ds ≤ 1048576)
def OpenSpec.upto (s : _root_.Go.ChangeSpec) : _root_.Go.OpenSpec := { _root_.Go.OpenSpec.ofChange s with cond := some uptoSmall }

/-- 'laws.FnTableOf', WHERE WHAT IT READS IS OF BULK AT MOST 1048576: true; the input reads as it did. -/
def fnTableOfUptoRow : OpenClaim := { program := "ytjcjpeckfikfkaa", sum := "4fd1d063e78ccc540e8920271c18a7746d139851f5e7d47b232ef82642847906", func := "loop.example/queryoptimizer/laws.FnTableOf", spec := "fnTableOf", unfollowed := true, recurses := true, apart := false, narrowed := true }
def FnTableOfUptoSaid : Prop := fnTableOfUptoRow.holds Try.pinned (OpenSpec.upto fnTableOfSpec)

/-- 'laws.FnExactTableOf', WHERE WHAT IT READS IS OF BULK AT MOST 1048576: true; the input reads as it did. -/
def fnExactTableOfUptoRow : OpenClaim := { program := "ytjcjpeckfikfkaa", sum := "4fd1d063e78ccc540e8920271c18a7746d139851f5e7d47b232ef82642847906", func := "loop.example/queryoptimizer/laws.FnExactTableOf", spec := "fnExactTableOf", unfollowed := true, recurses := true, apart := false, narrowed := true }
def FnExactTableOfUptoSaid : Prop := fnExactTableOfUptoRow.holds Try.pinned (OpenSpec.upto fnExactTableOfSpec)

/-- 'laws.FnCountRow', WHERE WHAT IT READS IS OF BULK AT MOST 1048576: true; the input reads as it did. -/
def fnCountRowUptoRow : OpenClaim := { program := "ytjcjpeckfikfkaa", sum := "4fd1d063e78ccc540e8920271c18a7746d139851f5e7d47b232ef82642847906", func := "loop.example/queryoptimizer/laws.FnCountRow", spec := "fnCountRow", unfollowed := true, recurses := true, apart := false, narrowed := true }
def FnCountRowUptoSaid : Prop := fnCountRowUptoRow.holds Try.pinned (OpenSpec.upto fnCountRowSpec)

/-- 'laws.FnDistinctRows', WHERE WHAT IT READS IS OF BULK AT MOST 1048576: true; the input reads as it did. -/
def fnDistinctRowsUptoRow : OpenClaim := { program := "ytjcjpeckfikfkaa", sum := "4fd1d063e78ccc540e8920271c18a7746d139851f5e7d47b232ef82642847906", func := "loop.example/queryoptimizer/laws.FnDistinctRows", spec := "fnDistinctRows", unfollowed := true, recurses := true, apart := false, narrowed := true }
def FnDistinctRowsUptoSaid : Prop := fnDistinctRowsUptoRow.holds Try.pinned (OpenSpec.upto fnDistinctRowsSpec)

/-- 'laws.FnExactDistinctRows', WHERE WHAT IT READS IS OF BULK AT MOST 1048576: true; the input reads as it did. -/
def fnExactDistinctRowsUptoRow : OpenClaim := { program := "ytjcjpeckfikfkaa", sum := "4fd1d063e78ccc540e8920271c18a7746d139851f5e7d47b232ef82642847906", func := "loop.example/queryoptimizer/laws.FnExactDistinctRows", spec := "fnExactDistinctRows", unfollowed := true, recurses := true, apart := false, narrowed := true }
def FnExactDistinctRowsUptoSaid : Prop := fnExactDistinctRowsUptoRow.holds Try.pinned (OpenSpec.upto fnExactDistinctRowsSpec)

/-- 'laws.FnUnionAll', WHERE WHAT IT READS IS OF BULK AT MOST 1048576: true; the input reads as it did. -/
def fnUnionAllUptoRow : OpenClaim := { program := "ytjcjpeckfikfkaa", sum := "4fd1d063e78ccc540e8920271c18a7746d139851f5e7d47b232ef82642847906", func := "loop.example/queryoptimizer/laws.FnUnionAll", spec := "fnUnionAll", unfollowed := true, recurses := true, apart := false, narrowed := true }
def FnUnionAllUptoSaid : Prop := fnUnionAllUptoRow.holds Try.pinned (OpenSpec.upto fnUnionAllSpec)

/-- 'laws.FnExactUnionAll', WHERE WHAT IT READS IS OF BULK AT MOST 1048576: true; the input reads as it did. -/
def fnExactUnionAllUptoRow : OpenClaim := { program := "ytjcjpeckfikfkaa", sum := "4fd1d063e78ccc540e8920271c18a7746d139851f5e7d47b232ef82642847906", func := "loop.example/queryoptimizer/laws.FnExactUnionAll", spec := "fnExactUnionAll", unfollowed := true, recurses := true, apart := false, narrowed := true }
def FnExactUnionAllUptoSaid : Prop := fnExactUnionAllUptoRow.holds Try.pinned (OpenSpec.upto fnExactUnionAllSpec)

/-- 'laws.FnIndexOf', WHERE WHAT IT READS IS OF BULK AT MOST 1048576: true; the input reads as it did. -/
def fnIndexOfUptoRow : OpenClaim := { program := "ytjcjpeckfikfkaa", sum := "4fd1d063e78ccc540e8920271c18a7746d139851f5e7d47b232ef82642847906", func := "loop.example/queryoptimizer/laws.FnIndexOf", spec := "fnIndexOf", unfollowed := true, recurses := true, apart := false, narrowed := true }
def FnIndexOfUptoSaid : Prop := fnIndexOfUptoRow.holds Try.pinned (OpenSpec.upto fnIndexOfSpec)

/-- 'laws.FnExactIndexOf', WHERE WHAT IT READS IS OF BULK AT MOST 1048576: true; the input reads as it did. -/
def fnExactIndexOfUptoRow : OpenClaim := { program := "ytjcjpeckfikfkaa", sum := "4fd1d063e78ccc540e8920271c18a7746d139851f5e7d47b232ef82642847906", func := "loop.example/queryoptimizer/laws.FnExactIndexOf", spec := "fnExactIndexOf", unfollowed := true, recurses := true, apart := false, narrowed := true }
def FnExactIndexOfUptoSaid : Prop := fnExactIndexOfUptoRow.holds Try.pinned (OpenSpec.upto fnExactIndexOfSpec)

/-- 'laws.FnScanRange', WHERE WHAT IT READS IS OF BULK AT MOST 1048576: true; the input reads as it did. -/
def fnScanRangeUptoRow : OpenClaim := { program := "ytjcjpeckfikfkaa", sum := "4fd1d063e78ccc540e8920271c18a7746d139851f5e7d47b232ef82642847906", func := "loop.example/queryoptimizer/laws.FnScanRange", spec := "fnScanRange", unfollowed := true, recurses := true, apart := false, narrowed := true }
def FnScanRangeUptoSaid : Prop := fnScanRangeUptoRow.holds Try.pinned (OpenSpec.upto fnScanRangeSpec)

/-- 'laws.FnExactScanRange', WHERE WHAT IT READS IS OF BULK AT MOST 1048576: true; the input reads as it did. -/
def fnExactScanRangeUptoRow : OpenClaim := { program := "ytjcjpeckfikfkaa", sum := "4fd1d063e78ccc540e8920271c18a7746d139851f5e7d47b232ef82642847906", func := "loop.example/queryoptimizer/laws.FnExactScanRange", spec := "fnExactScanRange", unfollowed := true, recurses := true, apart := false, narrowed := true }
def FnExactScanRangeUptoSaid : Prop := fnExactScanRangeUptoRow.holds Try.pinned (OpenSpec.upto fnExactScanRangeSpec)

/-- 'laws.FnStatsOf', WHERE WHAT IT READS IS OF BULK AT MOST 1048576: true; the input reads as it did. -/
def fnStatsOfUptoRow : OpenClaim := { program := "ytjcjpeckfikfkaa", sum := "4fd1d063e78ccc540e8920271c18a7746d139851f5e7d47b232ef82642847906", func := "loop.example/queryoptimizer/laws.FnStatsOf", spec := "fnStatsOf", unfollowed := true, recurses := true, apart := false, narrowed := true }
def FnStatsOfUptoSaid : Prop := fnStatsOfUptoRow.holds Try.pinned (OpenSpec.upto fnStatsOfSpec)

end Rows
end Go.Proofs.Ytjcjpeckfikfkaa
