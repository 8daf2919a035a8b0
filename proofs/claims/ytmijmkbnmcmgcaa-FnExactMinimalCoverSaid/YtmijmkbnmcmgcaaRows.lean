/-
  No cell of these rows narrows 'for every input' (looked for: loops, veiled, ifaces, maps, wideKeys, modest, calm, conditions, laid).
  DERIVED. THE GIVEN ROWS OF THIS SEAT. 9 by the template 'for every input the law returns true; each argument reads behind the call as it read before'; 0 by the template 'total and deterministic' (their statements: YtmijmkbnmcmgcaaTotals.lean).
  GIVEN WITH THE SEED: the statements are not yours to turn. If you find one false, say at which input.
  Laid BY PROGRAM, IN A SANDBOX (cutbox-rows.mjs): the forced cells as the released guide's own fill.sh prints them over the translation ba375629c88ad7be… (all of the seat's roots in one cut). By AI agents, Wed Nov 11 2026. No macro, syntax, notation, axiom, sorry.
-/
import Derived.Test.YtmijmkbnmcmgcaaChecked
import GoSem.Claim
import GoSem.ClaimJoined
import GoSem.ClaimMapViews
import Derived.JoinedTies
import Derived.KernelRfl
namespace Go.Proofs.Ytmijmkbnmcmgcaa
/- THE CELL 'sum', in the pinned program and in every row, IS THE sha256 OF THE DUMP (.gsa) THAT YtmijmkbnmcmgcaaProg.lean LOADS. Nothing in Lean hashes anything: it is a label: what it is worth is what the hold of that sum in a sandbox is worth. -/
noncomputable def Try.pinned : Pinned := { name := "ytmijmkbnmcmgcaa", sum := "ba375629c88ad7be2845d23df3204f19ec43549cd3e0216f2cdc5048cd7e28ad", checked := Try.checked }
namespace Rows
def none {H : Type} : Left H := { results := [], args := [] }

/-- 'laws.FnExactIsKey': WHATEVER THE INPUT: true; the input reads as it did. -/
def fnExactIsKeySpec : ChangeSpec := { name := "fnExactIsKey", fn := fun _ => fun
  | [d1, d2, d3] => { results := [.lit (.bool true)], args := [d1, d2, d3] }
  | _ => none }
def fnExactIsKeyRow : OpenClaim := { program := "ytmijmkbnmcmgcaa", sum := "ba375629c88ad7be2845d23df3204f19ec43549cd3e0216f2cdc5048cd7e28ad", func := "loop.example/queryoptimizer/laws.FnExactIsKey", spec := "fnExactIsKey", apart := false }
def FnExactIsKeySaid : Prop := fnExactIsKeyRow.holds Try.pinned (OpenSpec.ofChange fnExactIsKeySpec)

/-- ITS FALSE NEIGHBOUR: 'it returns false'. Refute it at one input. -/
def fnExactIsKeyWrong : ChangeSpec := { name := "fnExactIsKey", fn := fun _ => fun
  | [d1, d2, d3] => { results := [.lit (.bool false)], args := [d1, d2, d3] }
  | _ => none }
def FnExactIsKeyWrongFalsely : Prop := fnExactIsKeyRow.holds Try.pinned (OpenSpec.ofChange fnExactIsKeyWrong)

/-- 'laws.FnIsKey': WHATEVER THE INPUT: true; the input reads as it did. -/
def fnIsKeySpec : ChangeSpec := { name := "fnIsKey", fn := fun _ => fun
  | [d1, d2] => { results := [.lit (.bool true)], args := [d1, d2] }
  | _ => none }
def fnIsKeyRow : OpenClaim := { program := "ytmijmkbnmcmgcaa", sum := "ba375629c88ad7be2845d23df3204f19ec43549cd3e0216f2cdc5048cd7e28ad", func := "loop.example/queryoptimizer/laws.FnIsKey", spec := "fnIsKey", apart := false }
def FnIsKeySaid : Prop := fnIsKeyRow.holds Try.pinned (OpenSpec.ofChange fnIsKeySpec)

/-- ITS FALSE NEIGHBOUR: 'it returns false'. Refute it at one input. -/
def fnIsKeyWrong : ChangeSpec := { name := "fnIsKey", fn := fun _ => fun
  | [d1, d2] => { results := [.lit (.bool false)], args := [d1, d2] }
  | _ => none }
def FnIsKeyWrongFalsely : Prop := fnIsKeyRow.holds Try.pinned (OpenSpec.ofChange fnIsKeyWrong)

/-- 'laws.FnExactIsNormalForm': WHATEVER THE INPUT: true; the input reads as it did. -/
def fnExactIsNormalFormSpec : ChangeSpec := { name := "fnExactIsNormalForm", fn := fun _ => fun
  | [d1, d2] => { results := [.lit (.bool true)], args := [d1, d2] }
  | _ => none }
def fnExactIsNormalFormRow : OpenClaim := { program := "ytmijmkbnmcmgcaa", sum := "ba375629c88ad7be2845d23df3204f19ec43549cd3e0216f2cdc5048cd7e28ad", func := "loop.example/queryoptimizer/laws.FnExactIsNormalForm", spec := "fnExactIsNormalForm", apart := false }
def FnExactIsNormalFormSaid : Prop := fnExactIsNormalFormRow.holds Try.pinned (OpenSpec.ofChange fnExactIsNormalFormSpec)

/-- ITS FALSE NEIGHBOUR: 'it returns false'. Refute it at one input. -/
def fnExactIsNormalFormWrong : ChangeSpec := { name := "fnExactIsNormalForm", fn := fun _ => fun
  | [d1, d2] => { results := [.lit (.bool false)], args := [d1, d2] }
  | _ => none }
def FnExactIsNormalFormWrongFalsely : Prop := fnExactIsNormalFormRow.holds Try.pinned (OpenSpec.ofChange fnExactIsNormalFormWrong)

/-- 'laws.FnIsNormalForm': WHATEVER THE INPUT: true; the input reads as it did. -/
def fnIsNormalFormSpec : ChangeSpec := { name := "fnIsNormalForm", fn := fun _ => fun
  | [d] => { results := [.lit (.bool true)], args := [d] }
  | _ => none }
def fnIsNormalFormRow : OpenClaim := { program := "ytmijmkbnmcmgcaa", sum := "ba375629c88ad7be2845d23df3204f19ec43549cd3e0216f2cdc5048cd7e28ad", func := "loop.example/queryoptimizer/laws.FnIsNormalForm", spec := "fnIsNormalForm", apart := false }
def FnIsNormalFormSaid : Prop := fnIsNormalFormRow.holds Try.pinned (OpenSpec.ofChange fnIsNormalFormSpec)

/-- ITS FALSE NEIGHBOUR: 'it returns false'. Refute it at one input. -/
def fnIsNormalFormWrong : ChangeSpec := { name := "fnIsNormalForm", fn := fun _ => fun
  | [d] => { results := [.lit (.bool false)], args := [d] }
  | _ => none }
def FnIsNormalFormWrongFalsely : Prop := fnIsNormalFormRow.holds Try.pinned (OpenSpec.ofChange fnIsNormalFormWrong)

/-- 'laws.FnCandidateKeys': WHATEVER THE INPUT: true; the input reads as it did. -/
def fnCandidateKeysSpec : ChangeSpec := { name := "fnCandidateKeys", fn := fun _ => fun
  | [d1, d2] => { results := [.lit (.bool true)], args := [d1, d2] }
  | _ => none }
def fnCandidateKeysRow : OpenClaim := { program := "ytmijmkbnmcmgcaa", sum := "ba375629c88ad7be2845d23df3204f19ec43549cd3e0216f2cdc5048cd7e28ad", func := "loop.example/queryoptimizer/laws.FnCandidateKeys", spec := "fnCandidateKeys", unfollowed := true, recurses := true, apart := false }
def FnCandidateKeysSaid : Prop := fnCandidateKeysRow.holds Try.pinned (OpenSpec.ofChange fnCandidateKeysSpec)

/-- ITS FALSE NEIGHBOUR: 'it returns false'. Refute it at one input. -/
def fnCandidateKeysWrong : ChangeSpec := { name := "fnCandidateKeys", fn := fun _ => fun
  | [d1, d2] => { results := [.lit (.bool false)], args := [d1, d2] }
  | _ => none }
def FnCandidateKeysWrongFalsely : Prop := fnCandidateKeysRow.holds Try.pinned (OpenSpec.ofChange fnCandidateKeysWrong)

/-- 'laws.FnExactCandidateKeys': WHATEVER THE INPUT: true; the input reads as it did. -/
def fnExactCandidateKeysSpec : ChangeSpec := { name := "fnExactCandidateKeys", fn := fun _ => fun
  | [d1, d2] => { results := [.lit (.bool true)], args := [d1, d2] }
  | _ => none }
def fnExactCandidateKeysRow : OpenClaim := { program := "ytmijmkbnmcmgcaa", sum := "ba375629c88ad7be2845d23df3204f19ec43549cd3e0216f2cdc5048cd7e28ad", func := "loop.example/queryoptimizer/laws.FnExactCandidateKeys", spec := "fnExactCandidateKeys", unfollowed := true, recurses := true, apart := false }
def FnExactCandidateKeysSaid : Prop := fnExactCandidateKeysRow.holds Try.pinned (OpenSpec.ofChange fnExactCandidateKeysSpec)

/-- ITS FALSE NEIGHBOUR: 'it returns false'. Refute it at one input. -/
def fnExactCandidateKeysWrong : ChangeSpec := { name := "fnExactCandidateKeys", fn := fun _ => fun
  | [d1, d2] => { results := [.lit (.bool false)], args := [d1, d2] }
  | _ => none }
def FnExactCandidateKeysWrongFalsely : Prop := fnExactCandidateKeysRow.holds Try.pinned (OpenSpec.ofChange fnExactCandidateKeysWrong)

/-- 'laws.FnCoverMinimal': WHATEVER THE INPUT: true; the input reads as it did. -/
def fnCoverMinimalSpec : ChangeSpec := { name := "fnCoverMinimal", fn := fun _ => fun
  | [d1, d2] => { results := [.lit (.bool true)], args := [d1, d2] }
  | _ => none }
def fnCoverMinimalRow : OpenClaim := { program := "ytmijmkbnmcmgcaa", sum := "ba375629c88ad7be2845d23df3204f19ec43549cd3e0216f2cdc5048cd7e28ad", func := "loop.example/queryoptimizer/laws.FnCoverMinimal", spec := "fnCoverMinimal", apart := false }
def FnCoverMinimalSaid : Prop := fnCoverMinimalRow.holds Try.pinned (OpenSpec.ofChange fnCoverMinimalSpec)

/-- ITS FALSE NEIGHBOUR: 'it returns false'. Refute it at one input. -/
def fnCoverMinimalWrong : ChangeSpec := { name := "fnCoverMinimal", fn := fun _ => fun
  | [d1, d2] => { results := [.lit (.bool false)], args := [d1, d2] }
  | _ => none }
def FnCoverMinimalWrongFalsely : Prop := fnCoverMinimalRow.holds Try.pinned (OpenSpec.ofChange fnCoverMinimalWrong)

/-- 'laws.FnMinimalCover': WHATEVER THE INPUT: true; the input reads as it did. -/
def fnMinimalCoverSpec : ChangeSpec := { name := "fnMinimalCover", fn := fun _ => fun
  | [d] => { results := [.lit (.bool true)], args := [d] }
  | _ => none }
def fnMinimalCoverRow : OpenClaim := { program := "ytmijmkbnmcmgcaa", sum := "ba375629c88ad7be2845d23df3204f19ec43549cd3e0216f2cdc5048cd7e28ad", func := "loop.example/queryoptimizer/laws.FnMinimalCover", spec := "fnMinimalCover", apart := false }
def FnMinimalCoverSaid : Prop := fnMinimalCoverRow.holds Try.pinned (OpenSpec.ofChange fnMinimalCoverSpec)

/-- ITS FALSE NEIGHBOUR: 'it returns false'. Refute it at one input. -/
def fnMinimalCoverWrong : ChangeSpec := { name := "fnMinimalCover", fn := fun _ => fun
  | [d] => { results := [.lit (.bool false)], args := [d] }
  | _ => none }
def FnMinimalCoverWrongFalsely : Prop := fnMinimalCoverRow.holds Try.pinned (OpenSpec.ofChange fnMinimalCoverWrong)

/-- 'laws.FnExactMinimalCover': WHATEVER THE INPUT: true; the input reads as it did. -/
def fnExactMinimalCoverSpec : ChangeSpec := { name := "fnExactMinimalCover", fn := fun _ => fun
  | [d1, d2] => { results := [.lit (.bool true)], args := [d1, d2] }
  | _ => none }
def fnExactMinimalCoverRow : OpenClaim := { program := "ytmijmkbnmcmgcaa", sum := "ba375629c88ad7be2845d23df3204f19ec43549cd3e0216f2cdc5048cd7e28ad", func := "loop.example/queryoptimizer/laws.FnExactMinimalCover", spec := "fnExactMinimalCover", apart := false }
def FnExactMinimalCoverSaid : Prop := fnExactMinimalCoverRow.holds Try.pinned (OpenSpec.ofChange fnExactMinimalCoverSpec)

/-- ITS FALSE NEIGHBOUR: 'it returns false'. Refute it at one input. -/
def fnExactMinimalCoverWrong : ChangeSpec := { name := "fnExactMinimalCover", fn := fun _ => fun
  | [d1, d2] => { results := [.lit (.bool false)], args := [d1, d2] }
  | _ => none }
def FnExactMinimalCoverWrongFalsely : Prop := fnExactMinimalCoverRow.holds Try.pinned (OpenSpec.ofChange fnExactMinimalCoverWrong)

/- THE SECOND FORM. 'bulk': how many values and letters a reading holds, each counted each time it is reached (what is shared counts as often as it is met; a slice's spare places count too). A statement '..UptoSaid' is the law's where the arguments, and the package variables that the reading takes, are together of bulk at most 1048576: NARROWER than '..Said'. Prove '..Said' where nothing that the law and all that it calls make is longer than what came in: it says more and counts as full. Else prove '..UptoSaid'. A law counts once. -/
mutual
def uptoBulk {H : Type} : DataW H → Nat
  | .lit (.string bytes) => bytes.length + 1
  | .lit _ => 1
  | .nil => 1
  | .ptr d => uptoBulk d + 1
  | .slice elems spare => uptoBulkAll elems + uptoBulkAll spare + 1
  | .agg parts => uptoBulkAll parts + 1
  | .iface _ d => uptoBulk d + 1
  | .map entries => uptoBulkEntries entries + 1
  | .held _ => 1
def uptoBulkAll {H : Type} : List (DataW H) → Nat
  | [] => 0
  | d :: r => uptoBulk d + uptoBulkAll r
def uptoBulkEntries {H : Type} : List (Lit × DataW H) → Nat
  | [] => 0
  | x :: r => uptoBulkEntry x + uptoBulkEntries r
def uptoBulkEntry {H : Type} : Lit × DataW H → Nat
  | (.string bytes, d) => bytes.length + uptoBulk d + 1
  | (_, d) => uptoBulk d + 1
 end
def uptoSmall : (H : Type) → List (DataW H) → Bool := fun _ ds => decide (uptoBulkAll ds ≤ 1048576)
def OpenSpec.upto (s : _root_.Go.ChangeSpec) : _root_.Go.OpenSpec := { _root_.Go.OpenSpec.ofChange s with cond := some uptoSmall }

/-- 'laws.FnExactIsKey', WHERE WHAT IT READS IS OF BULK AT MOST 1048576: true; the input reads as it did. -/
def fnExactIsKeyUptoRow : OpenClaim := { program := "ytmijmkbnmcmgcaa", sum := "ba375629c88ad7be2845d23df3204f19ec43549cd3e0216f2cdc5048cd7e28ad", func := "loop.example/queryoptimizer/laws.FnExactIsKey", spec := "fnExactIsKey", apart := false, narrowed := true }
def FnExactIsKeyUptoSaid : Prop := fnExactIsKeyUptoRow.holds Try.pinned (OpenSpec.upto fnExactIsKeySpec)

/-- 'laws.FnIsKey', WHERE WHAT IT READS IS OF BULK AT MOST 1048576: true; the input reads as it did. -/
def fnIsKeyUptoRow : OpenClaim := { program := "ytmijmkbnmcmgcaa", sum := "ba375629c88ad7be2845d23df3204f19ec43549cd3e0216f2cdc5048cd7e28ad", func := "loop.example/queryoptimizer/laws.FnIsKey", spec := "fnIsKey", apart := false, narrowed := true }
def FnIsKeyUptoSaid : Prop := fnIsKeyUptoRow.holds Try.pinned (OpenSpec.upto fnIsKeySpec)

/-- 'laws.FnExactIsNormalForm', WHERE WHAT IT READS IS OF BULK AT MOST 1048576: true; the input reads as it did. -/
def fnExactIsNormalFormUptoRow : OpenClaim := { program := "ytmijmkbnmcmgcaa", sum := "ba375629c88ad7be2845d23df3204f19ec43549cd3e0216f2cdc5048cd7e28ad", func := "loop.example/queryoptimizer/laws.FnExactIsNormalForm", spec := "fnExactIsNormalForm", apart := false, narrowed := true }
def FnExactIsNormalFormUptoSaid : Prop := fnExactIsNormalFormUptoRow.holds Try.pinned (OpenSpec.upto fnExactIsNormalFormSpec)

/-- 'laws.FnIsNormalForm', WHERE WHAT IT READS IS OF BULK AT MOST 1048576: true; the input reads as it did. -/
def fnIsNormalFormUptoRow : OpenClaim := { program := "ytmijmkbnmcmgcaa", sum := "ba375629c88ad7be2845d23df3204f19ec43549cd3e0216f2cdc5048cd7e28ad", func := "loop.example/queryoptimizer/laws.FnIsNormalForm", spec := "fnIsNormalForm", apart := false, narrowed := true }
def FnIsNormalFormUptoSaid : Prop := fnIsNormalFormUptoRow.holds Try.pinned (OpenSpec.upto fnIsNormalFormSpec)

/-- 'laws.FnCandidateKeys', WHERE WHAT IT READS IS OF BULK AT MOST 1048576: true; the input reads as it did. -/
def fnCandidateKeysUptoRow : OpenClaim := { program := "ytmijmkbnmcmgcaa", sum := "ba375629c88ad7be2845d23df3204f19ec43549cd3e0216f2cdc5048cd7e28ad", func := "loop.example/queryoptimizer/laws.FnCandidateKeys", spec := "fnCandidateKeys", unfollowed := true, recurses := true, apart := false, narrowed := true }
def FnCandidateKeysUptoSaid : Prop := fnCandidateKeysUptoRow.holds Try.pinned (OpenSpec.upto fnCandidateKeysSpec)

/-- 'laws.FnExactCandidateKeys', WHERE WHAT IT READS IS OF BULK AT MOST 1048576: true; the input reads as it did. -/
def fnExactCandidateKeysUptoRow : OpenClaim := { program := "ytmijmkbnmcmgcaa", sum := "ba375629c88ad7be2845d23df3204f19ec43549cd3e0216f2cdc5048cd7e28ad", func := "loop.example/queryoptimizer/laws.FnExactCandidateKeys", spec := "fnExactCandidateKeys", unfollowed := true, recurses := true, apart := false, narrowed := true }
def FnExactCandidateKeysUptoSaid : Prop := fnExactCandidateKeysUptoRow.holds Try.pinned (OpenSpec.upto fnExactCandidateKeysSpec)

/-- 'laws.FnCoverMinimal', WHERE WHAT IT READS IS OF BULK AT MOST 1048576: true; the input reads as it did. -/
def fnCoverMinimalUptoRow : OpenClaim := { program := "ytmijmkbnmcmgcaa", sum := "ba375629c88ad7be2845d23df3204f19ec43549cd3e0216f2cdc5048cd7e28ad", func := "loop.example/queryoptimizer/laws.FnCoverMinimal", spec := "fnCoverMinimal", apart := false, narrowed := true }
def FnCoverMinimalUptoSaid : Prop := fnCoverMinimalUptoRow.holds Try.pinned (OpenSpec.upto fnCoverMinimalSpec)

/-- 'laws.FnMinimalCover', WHERE WHAT IT READS IS OF BULK AT MOST 1048576: true; the input reads as it did. -/
def fnMinimalCoverUptoRow : OpenClaim := { program := "ytmijmkbnmcmgcaa", sum := "ba375629c88ad7be2845d23df3204f19ec43549cd3e0216f2cdc5048cd7e28ad", func := "loop.example/queryoptimizer/laws.FnMinimalCover", spec := "fnMinimalCover", apart := false, narrowed := true }
def FnMinimalCoverUptoSaid : Prop := fnMinimalCoverUptoRow.holds Try.pinned (OpenSpec.upto fnMinimalCoverSpec)

/-- 'laws.FnExactMinimalCover', WHERE WHAT IT READS IS OF BULK AT MOST 1048576: true; the input reads as it did. -/
def fnExactMinimalCoverUptoRow : OpenClaim := { program := "ytmijmkbnmcmgcaa", sum := "ba375629c88ad7be2845d23df3204f19ec43549cd3e0216f2cdc5048cd7e28ad", func := "loop.example/queryoptimizer/laws.FnExactMinimalCover", spec := "fnExactMinimalCover", apart := false, narrowed := true }
def FnExactMinimalCoverUptoSaid : Prop := fnExactMinimalCoverUptoRow.holds Try.pinned (OpenSpec.upto fnExactMinimalCoverSpec)

end Rows
end Go.Proofs.Ytmijmkbnmcmgcaa
