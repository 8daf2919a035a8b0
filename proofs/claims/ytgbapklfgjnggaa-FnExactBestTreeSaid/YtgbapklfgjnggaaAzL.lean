/-
  A part of the proof of this claim (AzL): what functions of the program compute, and plain facts of that. No conditions.
-/
import Derived.Test.YtgbapklfgjnggaaAxD
set_option linter.all false
namespace Go.Proofs.Ytgbapklfgjnggaa
open Go Go.Am

section
variable {n : Int} (hn : n ≤ 5)
include hn

end

/-! what the leaves are -/

end Go.Proofs.Ytgbapklfgjnggaa
