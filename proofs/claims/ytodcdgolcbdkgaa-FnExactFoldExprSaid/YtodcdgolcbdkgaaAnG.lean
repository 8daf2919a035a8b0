/-
  An, part G: an array of the call's own that nobody writes into any more; a beginning of an array that stands for the array.
-/
import Derived.Test.YtodcdgolcbdkgaaAnF
set_option linter.all false
namespace Go.Am
variable [U : Univ]
attribute [local irreducible] OFF

section
variable {E : Ent} {N : Nat} {P : Program} {c : Code} {Q : Exit → St → Prop} {st st' : St} {a : Act} {w : World}

end
end Go.Am
