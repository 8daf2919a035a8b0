/-
  An, part Z: trees that lie open; slices.Delete on a tree.
-/
import Derived.Test.YtclennmbceaoeaaAnS
import Derived.Test.YtclennmbceaoeaaAnT
import Derived.Test.YtclennmbceaoeaaAnX
set_option linter.all false
namespace Go.Am
variable [U : Univ]
attribute [local irreducible] OFF

section
variable {E : Ent} {N : Nat} {P : Program} {ops : Array Oper} {Q : Exit → St → Prop} {st : St} {a : Act} {w : World} {β : Bind} {env : Nat → SV} {mem : Nat → Option Blk} {c : Code}

end
end Go.Am

namespace Go.Am
end Go.Am
